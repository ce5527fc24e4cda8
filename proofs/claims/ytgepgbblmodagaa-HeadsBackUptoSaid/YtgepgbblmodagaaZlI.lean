/- The functions' walks: for each function and each loop a rule of what it comes to. Printed by zw2.py. -/
import Derived.Test.YtgepgbblmodagaaProg
import Derived.Test.YtgepgbblmodagaaZkA
import Derived.Test.YtgepgbblmodagaaZqT
import Derived.Test.YtgepgbblmodagaaZlW
import Derived.Test.YtgepgbblmodagaaZlN
set_option linter.unusedVariables false
set_option maxRecDepth 100000
namespace Go.Zt
open Go Go.Sim Go.Proofs

/-! ### zoetrope/zoetropelaw20.HeadsBack: function 6 -/
def K6 : List (List It × List Nat) := [([.code [1,1,1,1,1,0,1], .code [1,1,1,1,1,1]], [0, 3, 52]), ([.code [1,1,1,1,1,1,1,1,0,1,0,0], .lp [1,1,1,1,1,1,1,1,0,1,0,0], .blk 0, .code [1,1,1,1,1,1,1,1,1]], [0, 3, 11, 12, 13]), ([.code [1,1,1,1,1,1,1,1,0,1,0,0,0,1], .code [1,1,1,1,1,1,1,1,0,1,0,0,1], .lp [1,1,1,1,1,1,1,1,0,1,0,0], .blk 0, .code [1,1,1,1,1,1,1,1,1]], [0, 3, 11, 12, 13, 61]), ([.code [1,1,1,1,1,1,1,1,0,1,0,0,1,1], .lp [1,1,1,1,1,1,1,1,0,1,0,0], .blk 0, .code [1,1,1,1,1,1,1,1,1]], [0, 3, 11, 12, 13]), ([.code [1,1,1,1,1,1,1,1,1,1,1,0,1,0,0], .lp [1,1,1,1,1,1,1,1,1,1,1,0,1,0,0], .blk 2, .code [1,1,1,1,1,1,1,1,1,1,1,1]], [3, 12, 15, 16]), ([.code [1,1,1,1,1,1,1,1,1,1,1,0,1,0,0,1,0,0,1,1], .blk 3, .code [1,1,1,1,1,1,1,1,1,1,1,0,1,0,0,1,1], .lp [1,1,1,1,1,1,1,1,1,1,1,0,1,0,0], .blk 2, .code [1,1,1,1,1,1,1,1,1,1,1,1]], [3, 12, 15, 16, 115]), ([.rg [1,1,1,1,1,1,1,1,1,1,1,1,1,0] 7, .code [1,1,1,1,1,1,1,1,1,1,1,1,1,1]], [15, 127]), ([.rg [1,1,1,1,1,1,1,1,1,1,1,1,1,0] 12, .code [1,1,1,1,1,1,1,1,1,1,1,1,1,1]], [15, 132])]
def Z6 : List (List Nat × List Nat) := [([1,1,1,1,1,1,1,1,1,1,1,1,1,0], [7, 12, 17])]
theorem b6 : Try.prog.funcs[6]? = some Try.f6 ∧ (Orc.tab Try.prog).lookup 6 = none ∧ Try.f6.body = some (codeOf Try.f6) := ⟨by kernel_rfl, by kernel_rfl, by kernel_rfl⟩
def A6_1 (Ax0 : Option Addr) (lx0 cx0 : Nat) (x3 : Option Addr) (x52 : Bool) (M : Mem) (Q : Value → Mem → Prop) : Prop := LvP Try.prog Try.f6 [(0, .slice Ax0 lx0 cx0), (3, .pointer x3), (52, .bool x52)] [.code [1,1,1,1,1,0,1], .code [1,1,1,1,1,1]] M Q
def A6_2 (Ax0 : Option Addr) (lx0 cx0 : Nat) (x3 x11 Ax12 : Option Addr) (lx12 cx12 : Nat) (x13 : Int) (M : Mem) (Q : Value → Mem → Prop) : Prop := LvP Try.prog Try.f6 [(0, .slice Ax0 lx0 cx0), (3, .pointer x3), (11, .pointer x11), (12, .slice Ax12 lx12 cx12), (13, .int .i64 x13)] [.code [1,1,1,1,1,1,1,1,0,1,0,0], .lp [1,1,1,1,1,1,1,1,0,1,0,0], .blk 0, .code [1,1,1,1,1,1,1,1,1]] M Q
def A6_3 (Ax0 : Option Addr) (lx0 cx0 : Nat) (x3 x11 Ax12 : Option Addr) (lx12 cx12 : Nat) (x13 : Int) (x61 : Bool) (M : Mem) (Q : Value → Mem → Prop) : Prop := LvP Try.prog Try.f6 [(0, .slice Ax0 lx0 cx0), (3, .pointer x3), (11, .pointer x11), (12, .slice Ax12 lx12 cx12), (13, .int .i64 x13), (61, .bool x61)] [.code [1,1,1,1,1,1,1,1,0,1,0,0,0,1], .code [1,1,1,1,1,1,1,1,0,1,0,0,1], .lp [1,1,1,1,1,1,1,1,0,1,0,0], .blk 0, .code [1,1,1,1,1,1,1,1,1]] M Q
def A6_4 (Ax0 : Option Addr) (lx0 cx0 : Nat) (x3 x11 Ax12 : Option Addr) (lx12 cx12 : Nat) (x13 : Int) (M : Mem) (Q : Value → Mem → Prop) : Prop := LvP Try.prog Try.f6 [(0, .slice Ax0 lx0 cx0), (3, .pointer x3), (11, .pointer x11), (12, .slice Ax12 lx12 cx12), (13, .int .i64 x13)] [.code [1,1,1,1,1,1,1,1,0,1,0,0,1,1], .lp [1,1,1,1,1,1,1,1,0,1,0,0], .blk 0, .code [1,1,1,1,1,1,1,1,1]] M Q
def A6_5 (x3 Ax12 : Option Addr) (lx12 cx12 : Nat) (x15 : Option Addr) (x16 : Int) (M : Mem) (Q : Value → Mem → Prop) : Prop := LvP Try.prog Try.f6 [(3, .pointer x3), (12, .slice Ax12 lx12 cx12), (15, .pointer x15), (16, .int .i64 x16)] [.code [1,1,1,1,1,1,1,1,1,1,1,0,1,0,0], .lp [1,1,1,1,1,1,1,1,1,1,1,0,1,0,0], .blk 2, .code [1,1,1,1,1,1,1,1,1,1,1,1]] M Q
def A6_6 (x3 Ax12 : Option Addr) (lx12 cx12 : Nat) (x15 : Option Addr) (x16 : Int) (x115 : Bool) (M : Mem) (Q : Value → Mem → Prop) : Prop := LvP Try.prog Try.f6 [(3, .pointer x3), (12, .slice Ax12 lx12 cx12), (15, .pointer x15), (16, .int .i64 x16), (115, .bool x115)] [.code [1,1,1,1,1,1,1,1,1,1,1,0,1,0,0,1,0,0,1,1], .blk 3, .code [1,1,1,1,1,1,1,1,1,1,1,0,1,0,0,1,1], .lp [1,1,1,1,1,1,1,1,1,1,1,0,1,0,0], .blk 2, .code [1,1,1,1,1,1,1,1,1,1,1,1]] M Q
def A6_7 (x15 : Option Addr) (x127 : Bool) (M : Mem) (Q : Value → Mem → Prop) : Prop := LvP Try.prog Try.f6 [(15, .pointer x15), (127, .bool x127)] [.rg [1,1,1,1,1,1,1,1,1,1,1,1,1,0] 7, .code [1,1,1,1,1,1,1,1,1,1,1,1,1,1]] M Q
def A6_8 (x15 : Option Addr) (x132 : Bool) (M : Mem) (Q : Value → Mem → Prop) : Prop := LvP Try.prog Try.f6 [(15, .pointer x15), (132, .bool x132)] [.rg [1,1,1,1,1,1,1,1,1,1,1,1,1,0] 12, .code [1,1,1,1,1,1,1,1,1,1,1,1,1,1]] M Q
theorem w6_0 {Ax0 : Option Addr} {lx0 cx0 : Nat} {x1_0 x1_1 : Int} {M : Mem} {Q : Value → Mem → Prop} (H :
    Cn Try.prog 17 #[] (M.new (.cells #[.int .i64 x1_0, .int .i64 x1_1] 23)) fun v1' N1' =>
     tyS (asB v1') fun b2' =>
     cnd (!b2') (
      Q (.bool false) N1') (
      onS (N1'.intAt .i64 (2 * M.nb.size) 0) fun x3' =>
      onS (N1'.intAt .i64 (2 * M.nb.size) (0 + 1)) fun x4' =>
      Cn Try.prog 14 #[.agg #[.int .i64 x3', .int .i64 x4']] N1' fun v5' N5' =>
       tyS (asI .i64 v5') fun x6' =>
       cnd (x6' != 0) (
        onS (N5'.intAt .i64 (2 * M.nb.size) 0) fun x7' =>
        onS (N5'.intAt .i64 (2 * M.nb.size) (0 + 1)) fun x8' =>
        Cn Try.prog 10 #[.agg #[.int .i64 x7', .int .i64 x8']] N5' fun v9' N9' =>
         tyS (asU 2 v9') fun cs10' =>
         tyS (asS (cs10'.getD 0 undef)) fun s11' =>
         tyS (asI .i64 (cs10'.getD 1 undef)) fun x12' =>
         Q (.bool (x12' == 2)) N9') (
        onS (N5'.intAt .i64 (2 * M.nb.size) 0) fun x13' =>
        onS (N5'.intAt .i64 (2 * M.nb.size) (0 + 1)) fun x14' =>
        Cn Try.prog 10 #[.agg #[.int .i64 x13', .int .i64 x14']] N5' fun v15' N15' =>
         tyS (asU 2 v15') fun cs16' =>
         tyS (asS (cs16'.getD 0 undef)) fun s17' =>
         tyS (asI .i64 (cs16'.getD 1 undef)) fun x18' =>
         Cn Try.prog 12 #[.slice s17'.1 s17'.2.1 s17'.2.2] N15' fun v19' N19' =>
          tyS (asU 2 v19') fun cs20' =>
          tyS (asA 2 (cs20'.getD 0 undef)) fun cs21' =>
          tyS (asI .i64 (cs21'.getD 0 undef)) fun x22' =>
          tyS (asI .i64 (cs21'.getD 1 undef)) fun x23' =>
          tyS (asI .i64 (cs20'.getD 1 undef)) fun x24' =>
          stP (some 2) #[.int .i64 x22', .int .i64 x23'] (N19'.new (.cells #[.int .i64 0, .int .i64 0] 23)) (2 * N19'.nb.size) 0 fun M25' =>
          cnd (x18' != 0) (
           A6_1 Ax0 lx0 cx0 (some ⟨2 * M.nb.size, 0, none⟩) true M25' Q) (
           cnd (x24' != 0) (
            A6_1 Ax0 lx0 cx0 (some ⟨2 * M.nb.size, 0, none⟩) true M25' Q) (
            onS (M25'.intAt .i64 (2 * N19'.nb.size) 0) fun x26' =>
            onS (M25'.intAt .i64 (2 * N19'.nb.size) (0 + 1)) fun x27' =>
            onS (M25'.intAt .i64 (2 * M.nb.size) 0) fun x28' =>
            onS (M25'.intAt .i64 (2 * M.nb.size) (0 + 1)) fun x29' =>
            puS (binV Try.prog .neq 23 23 (.agg #[.int .i64 x26', .int .i64 x27']) (.agg #[.int .i64 x28', .int .i64 x29'])) fun v30' =>
            tyS (asB v30') fun b31' =>
            A6_1 Ax0 lx0 cx0 (some ⟨2 * M.nb.size, 0, none⟩) b31' M25' Q))))) :
    Cn Try.prog 6 #[.slice Ax0 lx0 cx0, .agg #[.int .i64 x1_0, .int .i64 x1_1]] M Q :=
  Cn.mk (cuts := K6) (sp := Z6) 900 b6 rfl rfl H fun G => by kernel_rfl

theorem w6_1 {Ax0 : Option Addr} {lx0 cx0 : Nat} {x3 : Option Addr} {x52 : Bool} {M : Mem} {Q : Value → Mem → Prop} (H :
    cnd x52 (
     Q (.bool false) M) (
     Cn Try.prog 19 #[] M fun v32' N32' =>
      tyS (asP v32') fun p33' =>
      A6_2 Ax0 lx0 cx0 x3 p33' none 0 0 0 N32' Q)) :
    A6_1 Ax0 lx0 cx0 x3 x52 M Q :=
  LvP.mk (cuts := K6) (sp := Z6) 900 H fun G => by kernel_rfl

theorem w6_2 {Ax0 : Option Addr} {lx0 cx0 : Nat} {x3 x11 Ax12 : Option Addr} {lx12 cx12 : Nat} {x13 : Int} {M : Mem} {Q : Value → Mem → Prop} (H :
    cnd (decide (x13 < ((lx0 : Int)))) (
     A6_3 Ax0 lx0 cx0 x3 x11 Ax12 lx12 cx12 x13 (decide (x13 < 8)) M Q) (
     A6_3 Ax0 lx0 cx0 x3 x11 Ax12 lx12 cx12 x13 false M Q)) :
    A6_2 Ax0 lx0 cx0 x3 x11 Ax12 lx12 cx12 x13 M Q :=
  LvP.mk (cuts := K6) (sp := Z6) 900 H fun G => by kernel_rfl

theorem w6_3 {Ax0 : Option Addr} {lx0 cx0 : Nat} {x3 x11 Ax12 : Option Addr} {lx12 cx12 : Nat} {x13 : Int} {x61 : Bool} {M : Mem} {Q : Value → Mem → Prop} (H :
    cnd x61 (
     ixS (idxA Ax0 lx0 30 x13) fun a34' =>
     onS (M.boolAt a34'.block a34'.off) fun b35' =>
     onS (M.intAt .i64 a34'.block (a34'.off + 1)) fun x36' =>
     onS (M.boolAt a34'.block (a34'.off + 2)) fun b37' =>
     onS (M.boolAt a34'.block (a34'.off + 3)) fun b38' =>
     onS (M.intAt .i64 a34'.block (a34'.off + 4)) fun x39' =>
     onS (M.intAt .i64 a34'.block (a34'.off + 5)) fun x40' =>
     onS (M.intAt .i64 a34'.block (a34'.off + 6)) fun x41' =>
     onS (M.intAt .i64 a34'.block (a34'.off + 7)) fun x42' =>
     onS (M.intAt .i64 a34'.block (a34'.off + 8)) fun x43' =>
     onS (M.intAt .i64 a34'.block (a34'.off + 9)) fun x44' =>
     onS (M.intAt .i64 a34'.block (a34'.off + 10)) fun x45' =>
     onS (M.intAt .i64 a34'.block (a34'.off + 11)) fun x46' =>
     onS (M.intAt .i64 a34'.block (a34'.off + 12)) fun x47' =>
     onS (M.intAt .i64 a34'.block (a34'.off + 13)) fun x48' =>
     onS (M.intAt .i64 a34'.block (a34'.off + 14)) fun x49' =>
     onS (M.intAt .i64 a34'.block (a34'.off + 15)) fun x50' =>
     onS (M.intAt .i64 a34'.block (a34'.off + 16)) fun x51' =>
     onS (M.boolAt a34'.block (a34'.off + 17)) fun b52' =>
     onS (M.intAt .i64 a34'.block (a34'.off + 18)) fun x53' =>
     onS (M.intAt .i64 a34'.block (a34'.off + 19)) fun x54' =>
     onS (M.intAt .i64 a34'.block (a34'.off + 20)) fun x55' =>
     onS (M.intAt .i64 a34'.block (a34'.off + 21)) fun x56' =>
     onS (M.intAt .i64 a34'.block (a34'.off + 22)) fun x57' =>
     onS (M.boolAt a34'.block (a34'.off + 23)) fun b58' =>
     onS (M.intAt .i64 a34'.block (a34'.off + 24)) fun x59' =>
     onS (M.intAt .i64 a34'.block (a34'.off + 25)) fun x60' =>
     onS (M.slAt a34'.block (a34'.off + 26)) fun s61' =>
     onS (M.boolAt a34'.block (a34'.off + 27)) fun b62' =>
     onS (M.boolAt a34'.block (a34'.off + 28)) fun b63' =>
     onS (M.boolAt a34'.block (a34'.off + 29)) fun b64' =>
     adS x3 fun a65' =>
     onS (M.intAt .i64 a65'.block a65'.off) fun x66' =>
     onS (M.intAt .i64 a65'.block (a65'.off + 1)) fun x67' =>
     Cn Try.prog 24 #[.pointer x11, .agg #[.bool b35', .int .i64 x36', .bool b37', .bool b38', .int .i64 x39', .int .i64 x40', .int .i64 x41', .int .i64 x42', .int .i64 x43', .int .i64 x44', .int .i64 x45', .int .i64 x46', .int .i64 x47', .int .i64 x48', .int .i64 x49', .int .i64 x50', .int .i64 x51', .bool b52', .int .i64 x53', .int .i64 x54', .int .i64 x55', .int .i64 x56', .int .i64 x57', .bool b58', .int .i64 x59', .int .i64 x60', .slice s61'.1 (s61'.2.1) (s61'.2.2), .bool b62', .bool b63', .bool b64'], .agg #[.int .i64 x66', .int .i64 x67']] M fun v68' N68' =>
      tyS (asI .i64 v68') fun x69' =>
      ixS (idxA Ax0 lx0 30 x13) fun a70' =>
      onS (N68'.boolAt a70'.block a70'.off) fun b71' =>
      onS (N68'.intAt .i64 a70'.block (a70'.off + 1)) fun x72' =>
      onS (N68'.boolAt a70'.block (a70'.off + 2)) fun b73' =>
      onS (N68'.boolAt a70'.block (a70'.off + 3)) fun b74' =>
      onS (N68'.intAt .i64 a70'.block (a70'.off + 4)) fun x75' =>
      onS (N68'.intAt .i64 a70'.block (a70'.off + 5)) fun x76' =>
      onS (N68'.intAt .i64 a70'.block (a70'.off + 6)) fun x77' =>
      onS (N68'.intAt .i64 a70'.block (a70'.off + 7)) fun x78' =>
      onS (N68'.intAt .i64 a70'.block (a70'.off + 8)) fun x79' =>
      onS (N68'.intAt .i64 a70'.block (a70'.off + 9)) fun x80' =>
      onS (N68'.intAt .i64 a70'.block (a70'.off + 10)) fun x81' =>
      onS (N68'.intAt .i64 a70'.block (a70'.off + 11)) fun x82' =>
      onS (N68'.intAt .i64 a70'.block (a70'.off + 12)) fun x83' =>
      onS (N68'.intAt .i64 a70'.block (a70'.off + 13)) fun x84' =>
      onS (N68'.intAt .i64 a70'.block (a70'.off + 14)) fun x85' =>
      onS (N68'.intAt .i64 a70'.block (a70'.off + 15)) fun x86' =>
      onS (N68'.intAt .i64 a70'.block (a70'.off + 16)) fun x87' =>
      onS (N68'.boolAt a70'.block (a70'.off + 17)) fun b88' =>
      onS (N68'.intAt .i64 a70'.block (a70'.off + 18)) fun x89' =>
      onS (N68'.intAt .i64 a70'.block (a70'.off + 19)) fun x90' =>
      onS (N68'.intAt .i64 a70'.block (a70'.off + 20)) fun x91' =>
      onS (N68'.intAt .i64 a70'.block (a70'.off + 21)) fun x92' =>
      onS (N68'.intAt .i64 a70'.block (a70'.off + 22)) fun x93' =>
      onS (N68'.boolAt a70'.block (a70'.off + 23)) fun b94' =>
      onS (N68'.intAt .i64 a70'.block (a70'.off + 24)) fun x95' =>
      onS (N68'.intAt .i64 a70'.block (a70'.off + 25)) fun x96' =>
      onS (N68'.slAt a70'.block (a70'.off + 26)) fun s97' =>
      onS (N68'.boolAt a70'.block (a70'.off + 27)) fun b98' =>
      onS (N68'.boolAt a70'.block (a70'.off + 28)) fun b99' =>
      onS (N68'.boolAt a70'.block (a70'.off + 29)) fun b100' =>
      adS x3 fun a101' =>
      onS (N68'.intAt .i64 a101'.block a101'.off) fun x102' =>
      onS (N68'.intAt .i64 a101'.block (a101'.off + 1)) fun x103' =>
      Cn Try.prog 26 #[.agg #[.bool b71', .int .i64 x72', .bool b73', .bool b74', .int .i64 x75', .int .i64 x76', .int .i64 x77', .int .i64 x78', .int .i64 x79', .int .i64 x80', .int .i64 x81', .int .i64 x82', .int .i64 x83', .int .i64 x84', .int .i64 x85', .int .i64 x86', .int .i64 x87', .bool b88', .int .i64 x89', .int .i64 x90', .int .i64 x91', .int .i64 x92', .int .i64 x93', .bool b94', .int .i64 x95', .int .i64 x96', .slice s97'.1 (s97'.2.1) (s97'.2.2), .bool b98', .bool b99', .bool b100'], .agg #[.int .i64 x102', .int .i64 x103']] N68' fun v104' N104' =>
       tyS (asI .i64 v104') fun x105' =>
       cnd (x69' != x105') (
        Q (.bool false) N104') (
        cnd (x69' == 0) (
         ixS (idxA Ax0 lx0 30 x13) fun a106' =>
         onS (N104'.boolAt a106'.block a106'.off) fun b107' =>
         onS (N104'.intAt .i64 a106'.block (a106'.off + 1)) fun x108' =>
         onS (N104'.boolAt a106'.block (a106'.off + 2)) fun b109' =>
         onS (N104'.boolAt a106'.block (a106'.off + 3)) fun b110' =>
         onS (N104'.intAt .i64 a106'.block (a106'.off + 4)) fun x111' =>
         onS (N104'.intAt .i64 a106'.block (a106'.off + 5)) fun x112' =>
         onS (N104'.intAt .i64 a106'.block (a106'.off + 6)) fun x113' =>
         onS (N104'.intAt .i64 a106'.block (a106'.off + 7)) fun x114' =>
         onS (N104'.intAt .i64 a106'.block (a106'.off + 8)) fun x115' =>
         onS (N104'.intAt .i64 a106'.block (a106'.off + 9)) fun x116' =>
         onS (N104'.intAt .i64 a106'.block (a106'.off + 10)) fun x117' =>
         onS (N104'.intAt .i64 a106'.block (a106'.off + 11)) fun x118' =>
         onS (N104'.intAt .i64 a106'.block (a106'.off + 12)) fun x119' =>
         onS (N104'.intAt .i64 a106'.block (a106'.off + 13)) fun x120' =>
         onS (N104'.intAt .i64 a106'.block (a106'.off + 14)) fun x121' =>
         onS (N104'.intAt .i64 a106'.block (a106'.off + 15)) fun x122' =>
         onS (N104'.intAt .i64 a106'.block (a106'.off + 16)) fun x123' =>
         onS (N104'.boolAt a106'.block (a106'.off + 17)) fun b124' =>
         onS (N104'.intAt .i64 a106'.block (a106'.off + 18)) fun x125' =>
         onS (N104'.intAt .i64 a106'.block (a106'.off + 19)) fun x126' =>
         onS (N104'.intAt .i64 a106'.block (a106'.off + 20)) fun x127' =>
         onS (N104'.intAt .i64 a106'.block (a106'.off + 21)) fun x128' =>
         onS (N104'.intAt .i64 a106'.block (a106'.off + 22)) fun x129' =>
         onS (N104'.boolAt a106'.block (a106'.off + 23)) fun b130' =>
         onS (N104'.intAt .i64 a106'.block (a106'.off + 24)) fun x131' =>
         onS (N104'.intAt .i64 a106'.block (a106'.off + 25)) fun x132' =>
         onS (N104'.slAt a106'.block (a106'.off + 26)) fun s133' =>
         onS (N104'.boolAt a106'.block (a106'.off + 27)) fun b134' =>
         onS (N104'.boolAt a106'.block (a106'.off + 28)) fun b135' =>
         onS (N104'.boolAt a106'.block (a106'.off + 29)) fun b136' =>
         meS (appendP Try.prog #[67, 67] (.slice Ax12 lx12 cx12) (.slice (some ⟨2 * N104'.nb.size, 0, none⟩) 1 1) (N104'.new (.cells #[.bool b107', .int .i64 x108', .bool b109', .bool b110', .int .i64 x111', .int .i64 x112', .int .i64 x113', .int .i64 x114', .int .i64 x115', .int .i64 x116', .int .i64 x117', .int .i64 x118', .int .i64 x119', .int .i64 x120', .int .i64 x121', .int .i64 x122', .int .i64 x123', .bool b124', .int .i64 x125', .int .i64 x126', .int .i64 x127', .int .i64 x128', .int .i64 x129', .bool b130', .int .i64 x131', .int .i64 x132', .slice s133'.1 (s133'.2.1) (s133'.2.2), .bool b134', .bool b135', .bool b136'] 41))) fun r137' =>
         tyS (asS r137'.1) fun s138' =>
         A6_4 Ax0 lx0 cx0 x3 x11 s138'.1 s138'.2.1 s138'.2.2 x13 r137'.2 Q) (
         A6_4 Ax0 lx0 cx0 x3 x11 Ax12 lx12 cx12 x13 N104' Q))) (
     Cn Try.prog 22 #[.pointer x11, .int .u32 1, .int .i64 1] M fun v139' N139' =>
      tyS (asI .i64 v139') fun x140' =>
      Cn Try.prog 28 #[.pointer x11] N139' fun v141' N141' =>
       tyS (asS v141') fun s142' =>
       Cn Try.prog 31 #[.slice s142'.1 (s142'.2.1) (s142'.2.2)] N141' fun v143' N143' =>
        tyS (asP v143') fun p144' =>
        A6_5 x3 Ax12 lx12 cx12 p144' 0 N143' Q)) :
    A6_3 Ax0 lx0 cx0 x3 x11 Ax12 lx12 cx12 x13 x61 M Q :=
  LvP.mk (cuts := K6) (sp := Z6) 900 H fun G => by kernel_rfl

theorem w6_4 {Ax0 : Option Addr} {lx0 cx0 : Nat} {x3 x11 Ax12 : Option Addr} {lx12 cx12 : Nat} {x13 : Int} {M : Mem} {Q : Value → Mem → Prop} (H :
    A6_2 Ax0 lx0 cx0 x3 x11 Ax12 lx12 cx12 (IntKind.i64.wrap (x13 + 1)) M Q) :
    A6_4 Ax0 lx0 cx0 x3 x11 Ax12 lx12 cx12 x13 M Q :=
  LvP.mk (cuts := K6) (sp := Z6) 900 H fun G => by kernel_rfl

theorem w6_5 {x3 Ax12 : Option Addr} {lx12 cx12 : Nat} {x15 : Option Addr} {x16 : Int} {M : Mem} {Q : Value → Mem → Prop} (H :
    cnd (decide (x16 < ((lx12 : Int)))) (
     adS x3 fun a145' =>
     onS (M.intAt .i64 a145'.block a145'.off) fun x146' =>
     onS (M.intAt .i64 a145'.block (a145'.off + 1)) fun x147' =>
     Cn Try.prog 35 #[.pointer x15, .agg #[.int .i64 x146', .int .i64 x147']] M fun v148' N148' =>
      tyS (asU 2 v148') fun cs149' =>
      tyS (asA 30 (cs149'.getD 0 undef)) fun cs150' =>
      tyS (asB (cs150'.getD 0 undef)) fun b151' =>
      tyS (asI .i64 (cs150'.getD 1 undef)) fun x152' =>
      tyS (asB (cs150'.getD 2 undef)) fun b153' =>
      tyS (asB (cs150'.getD 3 undef)) fun b154' =>
      tyS (asI .i64 (cs150'.getD 4 undef)) fun x155' =>
      tyS (asI .i64 (cs150'.getD 5 undef)) fun x156' =>
      tyS (asI .i64 (cs150'.getD 6 undef)) fun x157' =>
      tyS (asI .i64 (cs150'.getD 7 undef)) fun x158' =>
      tyS (asI .i64 (cs150'.getD 8 undef)) fun x159' =>
      tyS (asI .i64 (cs150'.getD 9 undef)) fun x160' =>
      tyS (asI .i64 (cs150'.getD 10 undef)) fun x161' =>
      tyS (asI .i64 (cs150'.getD 11 undef)) fun x162' =>
      tyS (asI .i64 (cs150'.getD 12 undef)) fun x163' =>
      tyS (asI .i64 (cs150'.getD 13 undef)) fun x164' =>
      tyS (asI .i64 (cs150'.getD 14 undef)) fun x165' =>
      tyS (asI .i64 (cs150'.getD 15 undef)) fun x166' =>
      tyS (asI .i64 (cs150'.getD 16 undef)) fun x167' =>
      tyS (asB (cs150'.getD 17 undef)) fun b168' =>
      tyS (asI .i64 (cs150'.getD 18 undef)) fun x169' =>
      tyS (asI .i64 (cs150'.getD 19 undef)) fun x170' =>
      tyS (asI .i64 (cs150'.getD 20 undef)) fun x171' =>
      tyS (asI .i64 (cs150'.getD 21 undef)) fun x172' =>
      tyS (asI .i64 (cs150'.getD 22 undef)) fun x173' =>
      tyS (asB (cs150'.getD 23 undef)) fun b174' =>
      tyS (asI .i64 (cs150'.getD 24 undef)) fun x175' =>
      tyS (asI .i64 (cs150'.getD 25 undef)) fun x176' =>
      tyS (asS (cs150'.getD 26 undef)) fun s177' =>
      tyS (asB (cs150'.getD 27 undef)) fun b178' =>
      tyS (asB (cs150'.getD 28 undef)) fun b179' =>
      tyS (asB (cs150'.getD 29 undef)) fun b180' =>
      tyS (asI .i64 (cs149'.getD 1 undef)) fun x181' =>
      stP (some 30) #[.bool b151', .int .i64 x152', .bool b153', .bool b154', .int .i64 x155', .int .i64 x156', .int .i64 x157', .int .i64 x158', .int .i64 x159', .int .i64 x160', .int .i64 x161', .int .i64 x162', .int .i64 x163', .int .i64 x164', .int .i64 x165', .int .i64 x166', .int .i64 x167', .bool b168', .int .i64 x169', .int .i64 x170', .int .i64 x171', .int .i64 x172', .int .i64 x173', .bool b174', .int .i64 x175', .int .i64 x176', .slice s177'.1 (s177'.2.1) (s177'.2.2), .bool b178', .bool b179', .bool b180'] (N148'.new (.cells #[.bool false, .int .i64 0, .bool false, .bool false, .int .i64 0, .int .i64 0, .int .i64 0, .int .i64 0, .int .i64 0, .int .i64 0, .int .i64 0, .int .i64 0, .int .i64 0, .int .i64 0, .int .i64 0, .int .i64 0, .int .i64 0, .bool false, .int .i64 0, .int .i64 0, .int .i64 0, .int .i64 0, .int .i64 0, .bool false, .int .i64 0, .int .i64 0, .slice none 0 0, .bool false, .bool false, .bool false] 41)) (2 * N148'.nb.size) 0 fun M182' =>
      cnd (x181' != 0) (
       A6_6 x3 Ax12 lx12 cx12 x15 x16 true M182' Q) (
       onS (M182'.boolAt (2 * N148'.nb.size) 0) fun b183' =>
       onS (M182'.intAt .i64 (2 * N148'.nb.size) (0 + 1)) fun x184' =>
       onS (M182'.boolAt (2 * N148'.nb.size) (0 + 2)) fun b185' =>
       onS (M182'.boolAt (2 * N148'.nb.size) (0 + 3)) fun b186' =>
       onS (M182'.intAt .i64 (2 * N148'.nb.size) (0 + 4)) fun x187' =>
       onS (M182'.intAt .i64 (2 * N148'.nb.size) (0 + 5)) fun x188' =>
       onS (M182'.intAt .i64 (2 * N148'.nb.size) (0 + 6)) fun x189' =>
       onS (M182'.intAt .i64 (2 * N148'.nb.size) (0 + 7)) fun x190' =>
       onS (M182'.intAt .i64 (2 * N148'.nb.size) (0 + 8)) fun x191' =>
       onS (M182'.intAt .i64 (2 * N148'.nb.size) (0 + 9)) fun x192' =>
       onS (M182'.intAt .i64 (2 * N148'.nb.size) (0 + 10)) fun x193' =>
       onS (M182'.intAt .i64 (2 * N148'.nb.size) (0 + 11)) fun x194' =>
       onS (M182'.intAt .i64 (2 * N148'.nb.size) (0 + 12)) fun x195' =>
       onS (M182'.intAt .i64 (2 * N148'.nb.size) (0 + 13)) fun x196' =>
       onS (M182'.intAt .i64 (2 * N148'.nb.size) (0 + 14)) fun x197' =>
       onS (M182'.intAt .i64 (2 * N148'.nb.size) (0 + 15)) fun x198' =>
       onS (M182'.intAt .i64 (2 * N148'.nb.size) (0 + 16)) fun x199' =>
       onS (M182'.boolAt (2 * N148'.nb.size) (0 + 17)) fun b200' =>
       onS (M182'.intAt .i64 (2 * N148'.nb.size) (0 + 18)) fun x201' =>
       onS (M182'.intAt .i64 (2 * N148'.nb.size) (0 + 19)) fun x202' =>
       onS (M182'.intAt .i64 (2 * N148'.nb.size) (0 + 20)) fun x203' =>
       onS (M182'.intAt .i64 (2 * N148'.nb.size) (0 + 21)) fun x204' =>
       onS (M182'.intAt .i64 (2 * N148'.nb.size) (0 + 22)) fun x205' =>
       onS (M182'.boolAt (2 * N148'.nb.size) (0 + 23)) fun b206' =>
       onS (M182'.intAt .i64 (2 * N148'.nb.size) (0 + 24)) fun x207' =>
       onS (M182'.intAt .i64 (2 * N148'.nb.size) (0 + 25)) fun x208' =>
       onS (M182'.slAt (2 * N148'.nb.size) (0 + 26)) fun s209' =>
       onS (M182'.boolAt (2 * N148'.nb.size) (0 + 27)) fun b210' =>
       onS (M182'.boolAt (2 * N148'.nb.size) (0 + 28)) fun b211' =>
       onS (M182'.boolAt (2 * N148'.nb.size) (0 + 29)) fun b212' =>
       ixS (idxA Ax12 lx12 30 x16) fun a213' =>
       onS (M182'.boolAt a213'.block a213'.off) fun b214' =>
       onS (M182'.intAt .i64 a213'.block (a213'.off + 1)) fun x215' =>
       onS (M182'.boolAt a213'.block (a213'.off + 2)) fun b216' =>
       onS (M182'.boolAt a213'.block (a213'.off + 3)) fun b217' =>
       onS (M182'.intAt .i64 a213'.block (a213'.off + 4)) fun x218' =>
       onS (M182'.intAt .i64 a213'.block (a213'.off + 5)) fun x219' =>
       onS (M182'.intAt .i64 a213'.block (a213'.off + 6)) fun x220' =>
       onS (M182'.intAt .i64 a213'.block (a213'.off + 7)) fun x221' =>
       onS (M182'.intAt .i64 a213'.block (a213'.off + 8)) fun x222' =>
       onS (M182'.intAt .i64 a213'.block (a213'.off + 9)) fun x223' =>
       onS (M182'.intAt .i64 a213'.block (a213'.off + 10)) fun x224' =>
       onS (M182'.intAt .i64 a213'.block (a213'.off + 11)) fun x225' =>
       onS (M182'.intAt .i64 a213'.block (a213'.off + 12)) fun x226' =>
       onS (M182'.intAt .i64 a213'.block (a213'.off + 13)) fun x227' =>
       onS (M182'.intAt .i64 a213'.block (a213'.off + 14)) fun x228' =>
       onS (M182'.intAt .i64 a213'.block (a213'.off + 15)) fun x229' =>
       onS (M182'.intAt .i64 a213'.block (a213'.off + 16)) fun x230' =>
       onS (M182'.boolAt a213'.block (a213'.off + 17)) fun b231' =>
       onS (M182'.intAt .i64 a213'.block (a213'.off + 18)) fun x232' =>
       onS (M182'.intAt .i64 a213'.block (a213'.off + 19)) fun x233' =>
       onS (M182'.intAt .i64 a213'.block (a213'.off + 20)) fun x234' =>
       onS (M182'.intAt .i64 a213'.block (a213'.off + 21)) fun x235' =>
       onS (M182'.intAt .i64 a213'.block (a213'.off + 22)) fun x236' =>
       onS (M182'.boolAt a213'.block (a213'.off + 23)) fun b237' =>
       onS (M182'.intAt .i64 a213'.block (a213'.off + 24)) fun x238' =>
       onS (M182'.intAt .i64 a213'.block (a213'.off + 25)) fun x239' =>
       onS (M182'.slAt a213'.block (a213'.off + 26)) fun s240' =>
       onS (M182'.boolAt a213'.block (a213'.off + 27)) fun b241' =>
       onS (M182'.boolAt a213'.block (a213'.off + 28)) fun b242' =>
       onS (M182'.boolAt a213'.block (a213'.off + 29)) fun b243' =>
       Cn Try.prog 39 #[.agg #[.bool b183', .int .i64 x184', .bool b185', .bool b186', .int .i64 x187', .int .i64 x188', .int .i64 x189', .int .i64 x190', .int .i64 x191', .int .i64 x192', .int .i64 x193', .int .i64 x194', .int .i64 x195', .int .i64 x196', .int .i64 x197', .int .i64 x198', .int .i64 x199', .bool b200', .int .i64 x201', .int .i64 x202', .int .i64 x203', .int .i64 x204', .int .i64 x205', .bool b206', .int .i64 x207', .int .i64 x208', .slice s209'.1 (s209'.2.1) (s209'.2.2), .bool b210', .bool b211', .bool b212'], .agg #[.bool b214', .int .i64 x215', .bool b216', .bool b217', .int .i64 x218', .int .i64 x219', .int .i64 x220', .int .i64 x221', .int .i64 x222', .int .i64 x223', .int .i64 x224', .int .i64 x225', .int .i64 x226', .int .i64 x227', .int .i64 x228', .int .i64 x229', .int .i64 x230', .bool b231', .int .i64 x232', .int .i64 x233', .int .i64 x234', .int .i64 x235', .int .i64 x236', .bool b237', .int .i64 x238', .int .i64 x239', .slice s240'.1 (s240'.2.1) (s240'.2.2), .bool b241', .bool b242', .bool b243']] M182' fun v244' N244' =>
        tyS (asB v244') fun b245' =>
        A6_6 x3 Ax12 lx12 cx12 x15 x16 (!b245') N244' Q)) (
     Cn Try.prog 33 #[.pointer x15, .int .i64 1] M fun v246' N246' =>
      tyS (asU 2 v246') fun cs247' =>
      tyS (asI .u32 (cs247'.getD 0 undef)) fun x248' =>
      tyS (asI .i64 (cs247'.getD 1 undef)) fun x249' =>
      cnd (x249' == 0) (
       A6_7 x15 (x248' == 1) N246' Q) (
       A6_7 x15 false N246' Q))) :
    A6_5 x3 Ax12 lx12 cx12 x15 x16 M Q :=
  LvP.mk (cuts := K6) (sp := Z6) 900 H fun G => by kernel_rfl

theorem w6_6 {x3 Ax12 : Option Addr} {lx12 cx12 : Nat} {x15 : Option Addr} {x16 : Int} {x115 : Bool} {M : Mem} {Q : Value → Mem → Prop} (H :
    cnd x115 (
     Q (.bool false) M) (
     A6_5 x3 Ax12 lx12 cx12 x15 (IntKind.i64.wrap (x16 + 1)) M Q)) :
    A6_6 x3 Ax12 lx12 cx12 x15 x16 x115 M Q :=
  LvP.mk (cuts := K6) (sp := Z6) 900 H fun G => by kernel_rfl

theorem w6_7 {x15 : Option Addr} {x127 : Bool} {M : Mem} {Q : Value → Mem → Prop} (H :
    cnd x127 (
     Cn Try.prog 40 #[.pointer x15] M fun v250' N250' =>
      tyS (asI .i64 v250') fun x251' =>
      A6_8 x15 (x251' == 0) N250' Q) (
     A6_8 x15 false M Q)) :
    A6_7 x15 x127 M Q :=
  LvP.mk (cuts := K6) (sp := Z6) 900 H fun G => by kernel_rfl

theorem w6_8 {x15 : Option Addr} {x132 : Bool} {M : Mem} {Q : Value → Mem → Prop} (H :
    cnd x132 (
     Cn Try.prog 37 #[.pointer x15] M fun v252' N252' =>
      tyS (asI .i64 v252') fun x253' =>
      Q (.bool (x253' == 0)) N252') (
     Q (.bool false) M)) :
    A6_8 x15 x132 M Q :=
  LvP.mk (cuts := K6) (sp := Z6) 900 H fun G => by kernel_rfl


/-! ### zoetrope/zoetropelaw20.same: function 39 -/
def K39 : List (List It × List Nat) := [([.code [1,1,0,1,0,0], .lp [1,1,0,1,0,0], .blk 0, .code [1,1,1]], [2, 3, 5]), ([.rg [1,1,1,0] 13, .code [1,1,1,1]], [2, 3, 45]), ([.rg [1,1,1,0] 20, .code [1,1,1,1]], [2, 3, 52]), ([.rg [1,1,1,0] 27, .code [1,1,1,1]], [2, 3, 59]), ([.rg [1,1,1,0] 34, .code [1,1,1,1]], [2, 3, 66]), ([.rg [1,1,1,0] 41, .code [1,1,1,1]], [2, 3, 73]), ([.code [1,1,1,1]], [2, 3, 6]), ([.rg [1,1,1,1,0] 13, .code [1,1,1,1,1]], [2, 3, 6, 92]), ([.rg [1,1,1,1,0] 20, .code [1,1,1,1,1]], [2, 3, 6, 99]), ([.rg [1,1,1,1,0] 27, .code [1,1,1,1,1]], [2, 3, 6, 106]), ([.code [1,1,1,1,1]], [2, 3, 6, 7]), ([.rg [1,1,1,1,1,0] 5, .code [1,1,1,1,1,1]], [2, 3, 117]), ([.rg [1,1,1,1,1,0] 12, .code [1,1,1,1,1,1]], [2, 3, 124]), ([.rg [1,1,1,1,1,0] 19, .code [1,1,1,1,1,1]], [2, 3, 131]), ([.rg [1,1,1,1,1,0] 26, .code [1,1,1,1,1,1]], [2, 3, 138]), ([.rg [1,1,1,1,1,0] 33, .code [1,1,1,1,1,1]], [2, 3, 145]), ([.rg [1,1,1,1,1,0] 40, .code [1,1,1,1,1,1]], [2, 3, 152])]
def Z39 : List (List Nat × List Nat) := [([1,1,1,0], [13, 20, 27, 34, 41, 48]), ([1,1,1,1,0], [13, 20, 27, 34]), ([1,1,1,1,1,0], [5, 12, 19, 26, 33, 40, 47])]
theorem b39 : Try.prog.funcs[39]? = some Try.f39 ∧ (Orc.tab Try.prog).lookup 39 = none ∧ Try.f39.body = some (codeOf Try.f39) := ⟨by kernel_rfl, by kernel_rfl, by kernel_rfl⟩
def A39_1 (x2 x3 : Option Addr) (x5 : Int) (M : Mem) (Q : Value → Mem → Prop) : Prop := LvP Try.prog Try.f39 [(2, .pointer x2), (3, .pointer x3), (5, .int .i64 x5)] [.code [1,1,0,1,0,0], .lp [1,1,0,1,0,0], .blk 0, .code [1,1,1]] M Q
def A39_2 (x2 x3 : Option Addr) (x45 : Bool) (M : Mem) (Q : Value → Mem → Prop) : Prop := LvP Try.prog Try.f39 [(2, .pointer x2), (3, .pointer x3), (45, .bool x45)] [.rg [1,1,1,0] 13, .code [1,1,1,1]] M Q
def A39_3 (x2 x3 : Option Addr) (x52 : Bool) (M : Mem) (Q : Value → Mem → Prop) : Prop := LvP Try.prog Try.f39 [(2, .pointer x2), (3, .pointer x3), (52, .bool x52)] [.rg [1,1,1,0] 20, .code [1,1,1,1]] M Q
def A39_4 (x2 x3 : Option Addr) (x59 : Bool) (M : Mem) (Q : Value → Mem → Prop) : Prop := LvP Try.prog Try.f39 [(2, .pointer x2), (3, .pointer x3), (59, .bool x59)] [.rg [1,1,1,0] 27, .code [1,1,1,1]] M Q
def A39_5 (x2 x3 : Option Addr) (x66 : Bool) (M : Mem) (Q : Value → Mem → Prop) : Prop := LvP Try.prog Try.f39 [(2, .pointer x2), (3, .pointer x3), (66, .bool x66)] [.rg [1,1,1,0] 34, .code [1,1,1,1]] M Q
def A39_6 (x2 x3 : Option Addr) (x73 : Bool) (M : Mem) (Q : Value → Mem → Prop) : Prop := LvP Try.prog Try.f39 [(2, .pointer x2), (3, .pointer x3), (73, .bool x73)] [.rg [1,1,1,0] 41, .code [1,1,1,1]] M Q
def A39_7 (x2 x3 : Option Addr) (x6 : Bool) (M : Mem) (Q : Value → Mem → Prop) : Prop := LvP Try.prog Try.f39 [(2, .pointer x2), (3, .pointer x3), (6, .bool x6)] [.code [1,1,1,1]] M Q
def A39_8 (x2 x3 : Option Addr) (x6 x92 : Bool) (M : Mem) (Q : Value → Mem → Prop) : Prop := LvP Try.prog Try.f39 [(2, .pointer x2), (3, .pointer x3), (6, .bool x6), (92, .bool x92)] [.rg [1,1,1,1,0] 13, .code [1,1,1,1,1]] M Q
def A39_9 (x2 x3 : Option Addr) (x6 x99 : Bool) (M : Mem) (Q : Value → Mem → Prop) : Prop := LvP Try.prog Try.f39 [(2, .pointer x2), (3, .pointer x3), (6, .bool x6), (99, .bool x99)] [.rg [1,1,1,1,0] 20, .code [1,1,1,1,1]] M Q
def A39_10 (x2 x3 : Option Addr) (x6 x106 : Bool) (M : Mem) (Q : Value → Mem → Prop) : Prop := LvP Try.prog Try.f39 [(2, .pointer x2), (3, .pointer x3), (6, .bool x6), (106, .bool x106)] [.rg [1,1,1,1,0] 27, .code [1,1,1,1,1]] M Q
def A39_11 (x2 x3 : Option Addr) (x6 x7 : Bool) (M : Mem) (Q : Value → Mem → Prop) : Prop := LvP Try.prog Try.f39 [(2, .pointer x2), (3, .pointer x3), (6, .bool x6), (7, .bool x7)] [.code [1,1,1,1,1]] M Q
def A39_12 (x2 x3 : Option Addr) (x117 : Bool) (M : Mem) (Q : Value → Mem → Prop) : Prop := LvP Try.prog Try.f39 [(2, .pointer x2), (3, .pointer x3), (117, .bool x117)] [.rg [1,1,1,1,1,0] 5, .code [1,1,1,1,1,1]] M Q
def A39_13 (x2 x3 : Option Addr) (x124 : Bool) (M : Mem) (Q : Value → Mem → Prop) : Prop := LvP Try.prog Try.f39 [(2, .pointer x2), (3, .pointer x3), (124, .bool x124)] [.rg [1,1,1,1,1,0] 12, .code [1,1,1,1,1,1]] M Q
def A39_14 (x2 x3 : Option Addr) (x131 : Bool) (M : Mem) (Q : Value → Mem → Prop) : Prop := LvP Try.prog Try.f39 [(2, .pointer x2), (3, .pointer x3), (131, .bool x131)] [.rg [1,1,1,1,1,0] 19, .code [1,1,1,1,1,1]] M Q
def A39_15 (x2 x3 : Option Addr) (x138 : Bool) (M : Mem) (Q : Value → Mem → Prop) : Prop := LvP Try.prog Try.f39 [(2, .pointer x2), (3, .pointer x3), (138, .bool x138)] [.rg [1,1,1,1,1,0] 26, .code [1,1,1,1,1,1]] M Q
def A39_16 (x2 x3 : Option Addr) (x145 : Bool) (M : Mem) (Q : Value → Mem → Prop) : Prop := LvP Try.prog Try.f39 [(2, .pointer x2), (3, .pointer x3), (145, .bool x145)] [.rg [1,1,1,1,1,0] 33, .code [1,1,1,1,1,1]] M Q
def A39_17 (x2 x3 : Option Addr) (x152 : Bool) (M : Mem) (Q : Value → Mem → Prop) : Prop := LvP Try.prog Try.f39 [(2, .pointer x2), (3, .pointer x3), (152, .bool x152)] [.rg [1,1,1,1,1,0] 40, .code [1,1,1,1,1,1]] M Q
theorem w39_0 {x0 x1 : Array Value} {M : Mem} {Q : Value → Mem → Prop} (H :
    onS (((M.new (.cells x0 41)).new (.cells x1 41)).slAt (2 * M.nb.size) (0 + 26)) fun s1' =>
    onS (((M.new (.cells x0 41)).new (.cells x1 41)).slAt (2 * (M.new (.cells x0 41)).nb.size) (0 + 26)) fun s2' =>
    cnd (((s1'.2.1 : Int)) != ((s2'.2.1 : Int))) (
     Q (.bool false) ((M.new (.cells x0 41)).new (.cells x1 41))) (
     A39_1 (some ⟨2 * M.nb.size, 0, none⟩) (some ⟨2 * (M.new (.cells x0 41)).nb.size, 0, none⟩) 0 ((M.new (.cells x0 41)).new (.cells x1 41)) Q)) :
    Cn Try.prog 39 #[.agg x0, .agg x1] M Q :=
  Cn.mk (cuts := K39) (sp := Z39) 900 b39 rfl rfl H fun G => by kernel_rfl

theorem w39_1 {x2 x3 : Option Addr} {x5 : Int} {M : Mem} {Q : Value → Mem → Prop} (H :
    adS x2 fun a3' =>
    onS (M.slAt a3'.block (a3'.off + 26)) fun s4' =>
    cnd (decide (x5 < ((s4'.2.1 : Int)))) (
     adS x2 fun a5' =>
     onS (M.slAt a5'.block (a5'.off + 26)) fun s6' =>
     ixS (idxA s6'.1 (s6'.2.1) 4 x5) fun a7' =>
     onS (M.intAt .i64 a7'.block a7'.off) fun x8' =>
     onS (M.intAt .i64 a7'.block (a7'.off + 1)) fun x9' =>
     onS (M.intAt .i64 a7'.block (a7'.off + 2)) fun x10' =>
     onS (M.intAt .i64 a7'.block (a7'.off + 3)) fun x11' =>
     adS x3 fun a12' =>
     onS (M.slAt a12'.block (a12'.off + 26)) fun s13' =>
     ixS (idxA s13'.1 (s13'.2.1) 4 x5) fun a14' =>
     onS (M.intAt .i64 a14'.block a14'.off) fun x15' =>
     onS (M.intAt .i64 a14'.block (a14'.off + 1)) fun x16' =>
     onS (M.intAt .i64 a14'.block (a14'.off + 2)) fun x17' =>
     onS (M.intAt .i64 a14'.block (a14'.off + 3)) fun x18' =>
     puS (binV Try.prog .neq 96 96 (.agg #[.int .i64 x8', .int .i64 x9', .int .i64 x10', .int .i64 x11']) (.agg #[.int .i64 x15', .int .i64 x16', .int .i64 x17', .int .i64 x18'])) fun v19' =>
     tyS (asB v19') fun b20' =>
     cnd b20' (
      Q (.bool false) M) (
      A39_1 x2 x3 (IntKind.i64.wrap (x5 + 1)) M Q)) (
     adS x2 fun a21' =>
     onS (M.boolAt a21'.block a21'.off) fun b22' =>
     adS x3 fun a23' =>
     onS (M.boolAt a23'.block a23'.off) fun b24' =>
     cnd (b22' == b24') (
      adS x2 fun a25' =>
      onS (M.intAt .i64 a25'.block (a25'.off + 1)) fun x26' =>
      adS x3 fun a27' =>
      onS (M.intAt .i64 a27'.block (a27'.off + 1)) fun x28' =>
      A39_2 x2 x3 (x26' == x28') M Q) (
      A39_2 x2 x3 false M Q))) :
    A39_1 x2 x3 x5 M Q :=
  LvP.mk (cuts := K39) (sp := Z39) 900 H fun G => by kernel_rfl

theorem w39_2 {x2 x3 : Option Addr} {x45 : Bool} {M : Mem} {Q : Value → Mem → Prop} (H :
    cnd x45 (
     adS x2 fun a29' =>
     onS (M.boolAt a29'.block (a29'.off + 2)) fun b30' =>
     adS x3 fun a31' =>
     onS (M.boolAt a31'.block (a31'.off + 2)) fun b32' =>
     A39_3 x2 x3 (b30' == b32') M Q) (
     A39_3 x2 x3 false M Q)) :
    A39_2 x2 x3 x45 M Q :=
  LvP.mk (cuts := K39) (sp := Z39) 900 H fun G => by kernel_rfl

theorem w39_3 {x2 x3 : Option Addr} {x52 : Bool} {M : Mem} {Q : Value → Mem → Prop} (H :
    cnd x52 (
     adS x2 fun a33' =>
     onS (M.boolAt a33'.block (a33'.off + 3)) fun b34' =>
     adS x3 fun a35' =>
     onS (M.boolAt a35'.block (a35'.off + 3)) fun b36' =>
     A39_4 x2 x3 (b34' == b36') M Q) (
     A39_4 x2 x3 false M Q)) :
    A39_3 x2 x3 x52 M Q :=
  LvP.mk (cuts := K39) (sp := Z39) 900 H fun G => by kernel_rfl

theorem w39_4 {x2 x3 : Option Addr} {x59 : Bool} {M : Mem} {Q : Value → Mem → Prop} (H :
    cnd x59 (
     adS x2 fun a37' =>
     onS (M.intAt .i64 a37'.block (a37'.off + 4)) fun x38' =>
     adS x3 fun a39' =>
     onS (M.intAt .i64 a39'.block (a39'.off + 4)) fun x40' =>
     A39_5 x2 x3 (x38' == x40') M Q) (
     A39_5 x2 x3 false M Q)) :
    A39_4 x2 x3 x59 M Q :=
  LvP.mk (cuts := K39) (sp := Z39) 900 H fun G => by kernel_rfl

theorem w39_5 {x2 x3 : Option Addr} {x66 : Bool} {M : Mem} {Q : Value → Mem → Prop} (H :
    cnd x66 (
     adS x2 fun a41' =>
     onS (M.intAt .i64 a41'.block (a41'.off + 5)) fun x42' =>
     onS (M.intAt .i64 a41'.block (a41'.off + 6)) fun x43' =>
     onS (M.intAt .i64 a41'.block (a41'.off + 7)) fun x44' =>
     adS x3 fun a45' =>
     onS (M.intAt .i64 a45'.block (a45'.off + 5)) fun x46' =>
     onS (M.intAt .i64 a45'.block (a45'.off + 6)) fun x47' =>
     onS (M.intAt .i64 a45'.block (a45'.off + 7)) fun x48' =>
     puS (binV Try.prog .eql 35 35 (.agg #[.int .i64 x42', .int .i64 x43', .int .i64 x44']) (.agg #[.int .i64 x46', .int .i64 x47', .int .i64 x48'])) fun v49' =>
     tyS (asB v49') fun b50' =>
     A39_6 x2 x3 b50' M Q) (
     A39_6 x2 x3 false M Q)) :
    A39_5 x2 x3 x66 M Q :=
  LvP.mk (cuts := K39) (sp := Z39) 900 H fun G => by kernel_rfl

theorem w39_6 {x2 x3 : Option Addr} {x73 : Bool} {M : Mem} {Q : Value → Mem → Prop} (H :
    cnd x73 (
     adS x2 fun a51' =>
     onS (M.intAt .i64 a51'.block (a51'.off + 8)) fun x52' =>
     adS x3 fun a53' =>
     onS (M.intAt .i64 a53'.block (a53'.off + 8)) fun x54' =>
     A39_7 x2 x3 (x52' == x54') M Q) (
     A39_7 x2 x3 false M Q)) :
    A39_6 x2 x3 x73 M Q :=
  LvP.mk (cuts := K39) (sp := Z39) 900 H fun G => by kernel_rfl

theorem w39_7 {x2 x3 : Option Addr} {x6 : Bool} {M : Mem} {Q : Value → Mem → Prop} (H :
    adS x2 fun a55' =>
    onS (M.intAt .i64 a55'.block (a55'.off + 9)) fun x56' =>
    adS x3 fun a57' =>
    onS (M.intAt .i64 a57'.block (a57'.off + 9)) fun x58' =>
    cnd (x56' == x58') (
     adS x2 fun a59' =>
     onS (M.intAt .i64 a59'.block (a59'.off + 10)) fun x60' =>
     onS (M.intAt .i64 a59'.block (a59'.off + 11)) fun x61' =>
     onS (M.intAt .i64 a59'.block (a59'.off + 12)) fun x62' =>
     onS (M.intAt .i64 a59'.block (a59'.off + 13)) fun x63' =>
     onS (M.intAt .i64 a59'.block (a59'.off + 14)) fun x64' =>
     adS x3 fun a65' =>
     onS (M.intAt .i64 a65'.block (a65'.off + 10)) fun x66' =>
     onS (M.intAt .i64 a65'.block (a65'.off + 11)) fun x67' =>
     onS (M.intAt .i64 a65'.block (a65'.off + 12)) fun x68' =>
     onS (M.intAt .i64 a65'.block (a65'.off + 13)) fun x69' =>
     onS (M.intAt .i64 a65'.block (a65'.off + 14)) fun x70' =>
     puS (binV Try.prog .eql 36 36 (.agg #[.int .i64 x60', .int .i64 x61', .int .i64 x62', .int .i64 x63', .int .i64 x64']) (.agg #[.int .i64 x66', .int .i64 x67', .int .i64 x68', .int .i64 x69', .int .i64 x70'])) fun v71' =>
     tyS (asB v71') fun b72' =>
     A39_8 x2 x3 x6 b72' M Q) (
     A39_8 x2 x3 x6 false M Q)) :
    A39_7 x2 x3 x6 M Q :=
  LvP.mk (cuts := K39) (sp := Z39) 900 H fun G => by kernel_rfl

theorem w39_8 {x2 x3 : Option Addr} {x6 x92 : Bool} {M : Mem} {Q : Value → Mem → Prop} (H :
    cnd x92 (
     adS x2 fun a73' =>
     onS (M.intAt .i64 a73'.block (a73'.off + 15)) fun x74' =>
     adS x3 fun a75' =>
     onS (M.intAt .i64 a75'.block (a75'.off + 15)) fun x76' =>
     A39_9 x2 x3 x6 (x74' == x76') M Q) (
     A39_9 x2 x3 x6 false M Q)) :
    A39_8 x2 x3 x6 x92 M Q :=
  LvP.mk (cuts := K39) (sp := Z39) 900 H fun G => by kernel_rfl

theorem w39_9 {x2 x3 : Option Addr} {x6 x99 : Bool} {M : Mem} {Q : Value → Mem → Prop} (H :
    cnd x99 (
     adS x2 fun a77' =>
     onS (M.intAt .i64 a77'.block (a77'.off + 16)) fun x78' =>
     adS x3 fun a79' =>
     onS (M.intAt .i64 a79'.block (a79'.off + 16)) fun x80' =>
     A39_10 x2 x3 x6 (x78' == x80') M Q) (
     A39_10 x2 x3 x6 false M Q)) :
    A39_9 x2 x3 x6 x99 M Q :=
  LvP.mk (cuts := K39) (sp := Z39) 900 H fun G => by kernel_rfl

theorem w39_10 {x2 x3 : Option Addr} {x6 x106 : Bool} {M : Mem} {Q : Value → Mem → Prop} (H :
    cnd x106 (
     adS x2 fun a81' =>
     onS (M.boolAt a81'.block (a81'.off + 17)) fun b82' =>
     adS x3 fun a83' =>
     onS (M.boolAt a83'.block (a83'.off + 17)) fun b84' =>
     A39_11 x2 x3 x6 (b82' == b84') M Q) (
     A39_11 x2 x3 x6 false M Q)) :
    A39_10 x2 x3 x6 x106 M Q :=
  LvP.mk (cuts := K39) (sp := Z39) 900 H fun G => by kernel_rfl

theorem w39_11 {x2 x3 : Option Addr} {x6 x7 : Bool} {M : Mem} {Q : Value → Mem → Prop} (H :
    cnd x6 (
     A39_12 x2 x3 x7 M Q) (
     A39_12 x2 x3 false M Q)) :
    A39_11 x2 x3 x6 x7 M Q :=
  LvP.mk (cuts := K39) (sp := Z39) 900 H fun G => by kernel_rfl

theorem w39_12 {x2 x3 : Option Addr} {x117 : Bool} {M : Mem} {Q : Value → Mem → Prop} (H :
    cnd x117 (
     adS x2 fun a85' =>
     onS (M.intAt .i64 a85'.block (a85'.off + 18)) fun x86' =>
     onS (M.intAt .i64 a85'.block (a85'.off + 19)) fun x87' =>
     onS (M.intAt .i64 a85'.block (a85'.off + 20)) fun x88' =>
     onS (M.intAt .i64 a85'.block (a85'.off + 21)) fun x89' =>
     adS x3 fun a90' =>
     onS (M.intAt .i64 a90'.block (a90'.off + 18)) fun x91' =>
     onS (M.intAt .i64 a90'.block (a90'.off + 19)) fun x92' =>
     onS (M.intAt .i64 a90'.block (a90'.off + 20)) fun x93' =>
     onS (M.intAt .i64 a90'.block (a90'.off + 21)) fun x94' =>
     puS (binV Try.prog .eql 37 37 (.agg #[.int .i64 x86', .int .i64 x87', .int .i64 x88', .int .i64 x89']) (.agg #[.int .i64 x91', .int .i64 x92', .int .i64 x93', .int .i64 x94'])) fun v95' =>
     tyS (asB v95') fun b96' =>
     A39_13 x2 x3 b96' M Q) (
     A39_13 x2 x3 false M Q)) :
    A39_12 x2 x3 x117 M Q :=
  LvP.mk (cuts := K39) (sp := Z39) 900 H fun G => by kernel_rfl

theorem w39_13 {x2 x3 : Option Addr} {x124 : Bool} {M : Mem} {Q : Value → Mem → Prop} (H :
    cnd x124 (
     adS x2 fun a97' =>
     onS (M.intAt .i64 a97'.block (a97'.off + 22)) fun x98' =>
     adS x3 fun a99' =>
     onS (M.intAt .i64 a99'.block (a99'.off + 22)) fun x100' =>
     A39_14 x2 x3 (x98' == x100') M Q) (
     A39_14 x2 x3 false M Q)) :
    A39_13 x2 x3 x124 M Q :=
  LvP.mk (cuts := K39) (sp := Z39) 900 H fun G => by kernel_rfl

theorem w39_14 {x2 x3 : Option Addr} {x131 : Bool} {M : Mem} {Q : Value → Mem → Prop} (H :
    cnd x131 (
     adS x2 fun a101' =>
     onS (M.boolAt a101'.block (a101'.off + 23)) fun b102' =>
     adS x3 fun a103' =>
     onS (M.boolAt a103'.block (a103'.off + 23)) fun b104' =>
     A39_15 x2 x3 (b102' == b104') M Q) (
     A39_15 x2 x3 false M Q)) :
    A39_14 x2 x3 x131 M Q :=
  LvP.mk (cuts := K39) (sp := Z39) 900 H fun G => by kernel_rfl

theorem w39_15 {x2 x3 : Option Addr} {x138 : Bool} {M : Mem} {Q : Value → Mem → Prop} (H :
    cnd x138 (
     adS x2 fun a105' =>
     onS (M.intAt .i64 a105'.block (a105'.off + 24)) fun x106' =>
     adS x3 fun a107' =>
     onS (M.intAt .i64 a107'.block (a107'.off + 24)) fun x108' =>
     A39_16 x2 x3 (x106' == x108') M Q) (
     A39_16 x2 x3 false M Q)) :
    A39_15 x2 x3 x138 M Q :=
  LvP.mk (cuts := K39) (sp := Z39) 900 H fun G => by kernel_rfl

theorem w39_16 {x2 x3 : Option Addr} {x145 : Bool} {M : Mem} {Q : Value → Mem → Prop} (H :
    cnd x145 (
     adS x2 fun a109' =>
     onS (M.intAt .i64 a109'.block (a109'.off + 25)) fun x110' =>
     adS x3 fun a111' =>
     onS (M.intAt .i64 a111'.block (a111'.off + 25)) fun x112' =>
     A39_17 x2 x3 (x110' == x112') M Q) (
     A39_17 x2 x3 false M Q)) :
    A39_16 x2 x3 x145 M Q :=
  LvP.mk (cuts := K39) (sp := Z39) 900 H fun G => by kernel_rfl

theorem w39_17 {x2 x3 : Option Addr} {x152 : Bool} {M : Mem} {Q : Value → Mem → Prop} (H :
    cnd x152 (
     adS x2 fun a113' =>
     onS (M.boolAt a113'.block (a113'.off + 27)) fun b114' =>
     onS (M.boolAt a113'.block (a113'.off + 28)) fun b115' =>
     onS (M.boolAt a113'.block (a113'.off + 29)) fun b116' =>
     adS x3 fun a117' =>
     onS (M.boolAt a117'.block (a117'.off + 27)) fun b118' =>
     onS (M.boolAt a117'.block (a117'.off + 28)) fun b119' =>
     onS (M.boolAt a117'.block (a117'.off + 29)) fun b120' =>
     puS (binV Try.prog .eql 39 39 (.agg #[.bool b114', .bool b115', .bool b116']) (.agg #[.bool b118', .bool b119', .bool b120'])) fun v121' =>
     tyS (asB v121') fun b122' =>
     Q (.bool b122') M) (
     Q (.bool false) M)) :
    A39_17 x2 x3 x152 M Q :=
  LvP.mk (cuts := K39) (sp := Z39) 900 H fun G => by kernel_rfl


end Go.Zt


/- Layer 20: the law's own 'same' of a header and its like. -/
set_option linter.unusedSimpArgs false
set_option linter.unusedVariables false
set_option maxRecDepth 100000
namespace Go.Zt
open Go Go.Sim Go.Proofs Go.RowKit

section
variable {h : Hd} {X : List Sg} {M0 M : Mem} {j i : Nat} {A' : Option Addr} {c' : Nat}
theorem f39_17 (K : Keep M0 M) (a : M.nb[j]? = some (.cells h.cs 41)) (a' : M.nb[i]? = some (.cells ({ h with A := A', c := c' } : Hd).cs 41)) {x : Bool} (hx : x = true) : A39_17 (some ⟨2 * j, 0, none⟩) (some ⟨2 * i, 0, none⟩) x M (BK M0 true) := by
  exact w39_17 (cT hx (ad rfl (on (bool_of a rfl) (on (bool_of a rfl) (on (bool_of a rfl) (ad rfl (on (bool_of a' rfl) (on (bool_of a' rfl) (on (bool_of a' rfl) (pu (eq39 ..).1 (ty rfl (⟨by simp, K⟩))))))))))))
theorem f39_16 (K : Keep M0 M) (a : M.nb[j]? = some (.cells h.cs 41)) (a' : M.nb[i]? = some (.cells ({ h with A := A', c := c' } : Hd).cs 41)) {x : Bool} (hx : x = true) : A39_16 (some ⟨2 * j, 0, none⟩) (some ⟨2 * i, 0, none⟩) x M (BK M0 true) := by
  exact w39_16 (cT hx (ad rfl (on (int_of a rfl) (ad rfl (on (int_of a' rfl) (f39_17 K a a' (by simp)))))))
theorem f39_15 (K : Keep M0 M) (a : M.nb[j]? = some (.cells h.cs 41)) (a' : M.nb[i]? = some (.cells ({ h with A := A', c := c' } : Hd).cs 41)) {x : Bool} (hx : x = true) : A39_15 (some ⟨2 * j, 0, none⟩) (some ⟨2 * i, 0, none⟩) x M (BK M0 true) := by
  exact w39_15 (cT hx (ad rfl (on (int_of a rfl) (ad rfl (on (int_of a' rfl) (f39_16 K a a' (by simp)))))))
theorem f39_14 (K : Keep M0 M) (a : M.nb[j]? = some (.cells h.cs 41)) (a' : M.nb[i]? = some (.cells ({ h with A := A', c := c' } : Hd).cs 41)) {x : Bool} (hx : x = true) : A39_14 (some ⟨2 * j, 0, none⟩) (some ⟨2 * i, 0, none⟩) x M (BK M0 true) := by
  exact w39_14 (cT hx (ad rfl (on (bool_of a rfl) (ad rfl (on (bool_of a' rfl) (f39_15 K a a' (by simp)))))))
theorem f39_13 (K : Keep M0 M) (a : M.nb[j]? = some (.cells h.cs 41)) (a' : M.nb[i]? = some (.cells ({ h with A := A', c := c' } : Hd).cs 41)) {x : Bool} (hx : x = true) : A39_13 (some ⟨2 * j, 0, none⟩) (some ⟨2 * i, 0, none⟩) x M (BK M0 true) := by
  exact w39_13 (cT hx (ad rfl (on (int_of a rfl) (ad rfl (on (int_of a' rfl) (f39_14 K a a' (by simp)))))))
theorem f39_12 (K : Keep M0 M) (a : M.nb[j]? = some (.cells h.cs 41)) (a' : M.nb[i]? = some (.cells ({ h with A := A', c := c' } : Hd).cs 41)) {x : Bool} (hx : x = true) : A39_12 (some ⟨2 * j, 0, none⟩) (some ⟨2 * i, 0, none⟩) x M (BK M0 true) := by
  exact w39_12 (cT hx (ad rfl (on (int_of a rfl) (on (int_of a rfl) (on (int_of a rfl) (on (int_of a rfl) (ad rfl (on (int_of a' rfl) (on (int_of a' rfl) (on (int_of a' rfl) (on (int_of a' rfl) (pu (eq37 ..).1 (ty rfl (f39_13 K a a' (by simp)))))))))))))))
theorem f39_11 (K : Keep M0 M) (a : M.nb[j]? = some (.cells h.cs 41)) (a' : M.nb[i]? = some (.cells ({ h with A := A', c := c' } : Hd).cs 41)) {x : Bool} (hx : x = true) {y : Bool} (hy : y = true) : A39_11 (some ⟨2 * j, 0, none⟩) (some ⟨2 * i, 0, none⟩) x y M (BK M0 true) := by
  exact w39_11 (cT hx (f39_12 K a a' hy))
theorem f39_10 (K : Keep M0 M) (a : M.nb[j]? = some (.cells h.cs 41)) (a' : M.nb[i]? = some (.cells ({ h with A := A', c := c' } : Hd).cs 41)) {x : Bool} (hx : x = true) {y : Bool} (hy : y = true) : A39_10 (some ⟨2 * j, 0, none⟩) (some ⟨2 * i, 0, none⟩) x y M (BK M0 true) := by
  exact w39_10 (cT hy (ad rfl (on (bool_of a rfl) (ad rfl (on (bool_of a' rfl) (f39_11 K a a' hx (by simp)))))))
theorem f39_9 (K : Keep M0 M) (a : M.nb[j]? = some (.cells h.cs 41)) (a' : M.nb[i]? = some (.cells ({ h with A := A', c := c' } : Hd).cs 41)) {x : Bool} (hx : x = true) {y : Bool} (hy : y = true) : A39_9 (some ⟨2 * j, 0, none⟩) (some ⟨2 * i, 0, none⟩) x y M (BK M0 true) := by
  exact w39_9 (cT hy (ad rfl (on (int_of a rfl) (ad rfl (on (int_of a' rfl) (f39_10 K a a' hx (by simp)))))))
theorem f39_8 (K : Keep M0 M) (a : M.nb[j]? = some (.cells h.cs 41)) (a' : M.nb[i]? = some (.cells ({ h with A := A', c := c' } : Hd).cs 41)) {x : Bool} (hx : x = true) {y : Bool} (hy : y = true) : A39_8 (some ⟨2 * j, 0, none⟩) (some ⟨2 * i, 0, none⟩) x y M (BK M0 true) := by
  exact w39_8 (cT hy (ad rfl (on (int_of a rfl) (ad rfl (on (int_of a' rfl) (f39_9 K a a' hx (by simp)))))))
theorem f39_7 (K : Keep M0 M) (a : M.nb[j]? = some (.cells h.cs 41)) (a' : M.nb[i]? = some (.cells ({ h with A := A', c := c' } : Hd).cs 41)) {x : Bool} (hx : x = true) : A39_7 (some ⟨2 * j, 0, none⟩) (some ⟨2 * i, 0, none⟩) x M (BK M0 true) := by
  exact w39_7 (ad rfl (on (int_of a rfl) (ad rfl (on (int_of a' rfl) (cT (by simp) (ad rfl (on (int_of a rfl) (on (int_of a rfl) (on (int_of a rfl) (on (int_of a rfl) (on (int_of a rfl) (ad rfl (on (int_of a' rfl) (on (int_of a' rfl) (on (int_of a' rfl) (on (int_of a' rfl) (on (int_of a' rfl) (pu (eq36 ..).1 (ty rfl (f39_8 K a a' hx (by simp)))))))))))))))))))))
theorem f39_6 (K : Keep M0 M) (a : M.nb[j]? = some (.cells h.cs 41)) (a' : M.nb[i]? = some (.cells ({ h with A := A', c := c' } : Hd).cs 41)) {x : Bool} (hx : x = true) : A39_6 (some ⟨2 * j, 0, none⟩) (some ⟨2 * i, 0, none⟩) x M (BK M0 true) := by
  exact w39_6 (cT hx (ad rfl (on (int_of a rfl) (ad rfl (on (int_of a' rfl) (f39_7 K a a' (by simp)))))))
theorem f39_5 (K : Keep M0 M) (a : M.nb[j]? = some (.cells h.cs 41)) (a' : M.nb[i]? = some (.cells ({ h with A := A', c := c' } : Hd).cs 41)) {x : Bool} (hx : x = true) : A39_5 (some ⟨2 * j, 0, none⟩) (some ⟨2 * i, 0, none⟩) x M (BK M0 true) := by
  exact w39_5 (cT hx (ad rfl (on (int_of a rfl) (on (int_of a rfl) (on (int_of a rfl) (ad rfl (on (int_of a' rfl) (on (int_of a' rfl) (on (int_of a' rfl) (pu (eq35 ..).1 (ty rfl (f39_6 K a a' (by simp)))))))))))))
theorem f39_4 (K : Keep M0 M) (a : M.nb[j]? = some (.cells h.cs 41)) (a' : M.nb[i]? = some (.cells ({ h with A := A', c := c' } : Hd).cs 41)) {x : Bool} (hx : x = true) : A39_4 (some ⟨2 * j, 0, none⟩) (some ⟨2 * i, 0, none⟩) x M (BK M0 true) := by
  exact w39_4 (cT hx (ad rfl (on (int_of a rfl) (ad rfl (on (int_of a' rfl) (f39_5 K a a' (by simp)))))))
theorem f39_3 (K : Keep M0 M) (a : M.nb[j]? = some (.cells h.cs 41)) (a' : M.nb[i]? = some (.cells ({ h with A := A', c := c' } : Hd).cs 41)) {x : Bool} (hx : x = true) : A39_3 (some ⟨2 * j, 0, none⟩) (some ⟨2 * i, 0, none⟩) x M (BK M0 true) := by
  exact w39_3 (cT hx (ad rfl (on (bool_of a rfl) (ad rfl (on (bool_of a' rfl) (f39_4 K a a' (by simp)))))))
theorem f39_2 (K : Keep M0 M) (a : M.nb[j]? = some (.cells h.cs 41)) (a' : M.nb[i]? = some (.cells ({ h with A := A', c := c' } : Hd).cs 41)) {x : Bool} (hx : x = true) : A39_2 (some ⟨2 * j, 0, none⟩) (some ⟨2 * i, 0, none⟩) x M (BK M0 true) := by
  exact w39_2 (cT hx (ad rfl (on (bool_of a rfl) (ad rfl (on (bool_of a' rfl) (f39_3 K a a' (by simp)))))))
theorem f39_1 (K : Keep M0 M) (a : M.nb[j]? = some (.cells h.cs 41)) (a' : M.nb[i]? = some (.cells ({ h with A := A', c := c' } : Hd).cs 41)) (hn : h.n = X.length) (hb : h.n ≤ 1048576) (hR : Row M h.A (Sgs X)) (hR' : Row M A' (Sgs X)) : ∀ (k q : Nat), q + k = h.n → A39_1 (some ⟨2 * j, 0, none⟩) (some ⟨2 * i, 0, none⟩) (q : Int) M (BK M0 true)
  | 0, q, hq => w39_1 (ad rfl (on (sl_of a rfl) (cF (decide_eq_false (by show ¬ (q : Int) < (h.n : Int); omega)) (ad rfl (on (bool_of a rfl) (ad rfl (on (bool_of a' rfl) (cT (by simp) (ad rfl (on (int_of a rfl) (ad rfl (on (int_of a' rfl) (f39_2 K a a' (by simp))))))))))))))
  | k + 1, q, hq => by
    have hlt : q < X.length := by omega
    obtain ⟨p, g0, g1, g2, g3, g4⟩ := Sgs.elt hR (n := h.n) (i := q) (z := (q : Int)) rfl (by omega) hlt
    obtain ⟨p', g0', g1', g2', g3', g4'⟩ := Sgs.elt hR' (n := h.n) (i := q) (z := (q : Int)) rfl (by omega) hlt
    refine w39_1 (ad rfl (on (sl_of a rfl) (cT (decide_eq_true (show (q : Int) < (h.n : Int) by omega)) (ad rfl (on (sl_of a rfl) (ix g0 (on g1 (on g2 (on g3 (on g4 (ad rfl (on (sl_of a' rfl) (ix g0' (on g1' (on g2' (on g3' (on g4' (pu (eq96 ..).2 (ty rfl (cF (by simp) ?_))))))))))))))))))))
    rw [i64w (by omega)]
    exact f39_1 K a a' hn hb hR hR' k (q + 1) (by omega)
theorem c39 (hn : h.n = X.length) (hb : h.n ≤ 1048576) (hR : Row M h.A (Sgs X)) (hR' : Row M A' (Sgs X)) : Cn Try.prog 39 #[.agg h.cs, .agg ({ h with A := A', c := c' } : Hd).cs] M (BK M true) := by
  have a := Mem.new_at M (.cells h.cs 41)
  have K : Keep M (M.new (.cells h.cs 41)) := .new _ _
  refine w39_0 ?_
  generalize M.new (.cells h.cs 41) = N at a K ⊢
  have a' := Mem.new_at N (.cells ({ h with A := A', c := c' } : Hd).cs 41)
  have K2 : Keep N (N.new (.cells ({ h with A := A', c := c' } : Hd).cs 41)) := .new _ _
  have a2 := at_keep a K2
  generalize N.new (.cells ({ h with A := A', c := c' } : Hd).cs 41) = N2 at a' K2 a2 ⊢
  have KK := K.trans K2
  exact on (sl_of a2 rfl) (on (sl_of a' rfl) (cF (by simp) (f39_1 KK a2 a' hn hb (hR.keep KK) (hR'.keep KK) h.n 0 (by omega))))
end
end Go.Zt


/- Layer 20: HeadsReads: the program's Read. -/
set_option linter.unusedSimpArgs false
set_option linter.unusedVariables false
set_option maxRecDepth 100000
namespace Go.Zt
open Go Go.Sim Go.Proofs Go.RowKit

abbrev zP : Hd := ⟨false, 0, false, false, 0, 0, 0, 0, 0, 0, 0, 0, 0, 0, 0, 0, 0, false, 0, 0, 0, 0, 0, false, 0, 0, none, 0, 0, false, false, false⟩
/-- What Read tells. -/
def TolP (U : Nat → Prop) (jq lo : Nat) (M0 : Mem) (T : Cd → List Sg → Prop) : Value → Mem → Prop := fun v N =>
  ∃ U' c X, T c X ∧ (∀ i, U' i → U i ∨ lo ≤ i) ∧ Chg (fun i => U i ∨ i = jq ∨ lo ≤ i) M0 N ∧ DvM U' N jq c.1 ∧ (∀ i, U' i → i < N.nb.size) ∧ ((c.2.1 ≠ 0 ∧ v = .tuple #[.agg zP.cs, .int .i64 (c.2.1 : Nat)]) ∨ (c.2.1 = 0 ∧ v = .tuple #[.agg c.2.2.cs, .int .i64 0] ∧ c.2.2.n = X.length ∧ Row N c.2.2.A (Sgs X) ∧ ∀ a, c.2.2.A = some a → a.block % 2 = 1 ∨ lo ≤ a.block / 2))
section
variable {U : Nat → Prop} {M N M0 : Mem} {jq p : Nat} {b : List Nat} {w e : Int}
theorem DvM.chg1 {d : Dv} {j : Nat} {T : Nat → Prop} (h : DvM U M j d) (hr : ∃ b p, d = .r b p) (k : Chg T M N) (hj : ¬ T j) (hS : ∀ i, U i → ¬ T i) : DvM U N j d := by
  obtain ⟨b, p, rfl⟩ := hr
  exact Rdr.chg h k hj hS
theorem sg1_isW (d : Dv) (e : Nat) (x : Sg) : (sg1 d e x).1.isW = d.isW := by
  unfold sg1
  dsimp only
  rw [numD_isW, numD_isW, numD_isW, numD_isW]
theorem sgsD_isW : ∀ (X : List Sg) (d : Dv) (e : Nat), (sgsD d e X).1.isW = d.isW
  | [], _, _ => rfl
  | x :: X, d, e => by simp only [sgsD]; rw [sgsD_isW X, sg1_isW]
theorem StrT_isW {c0 c : Cd} {X0 X : List Sg} (h : StrT c0 X0 c X) : c.1.isW = c0.1.isW := by
  obtain ⟨c1, h1, c2, h2, c3, X3, h3, h4, _⟩ := h
  have q1 : c1.1.isW = c0.1.isW := by rw [h1]; exact numD_isW ..
  have q2 : c2.1.isW = c1.1.isW := by rw [h2]; exact numD_isW ..
  have q3 : c3.1.isW = c2.1.isW := by
    split at h3
    · rw [h3.1]
    · split at h3
      · obtain ⟨⟨A, m, hc⟩, _⟩ := h3; rw [hc]
      · rw [h3.1]
  have q4 : c.1.isW = c3.1.isW := by rw [h4]; exact sgsD_isW ..
  rw [q4, q3, q2, q1]
theorem FiltT_isW {c0 c : Cd} {X0 X : List Sg} (h : FiltT c0 X0 c X) : c.1.isW = c0.1.isW := by
  obtain ⟨c1, h1, c2, h2, c3, h3, c4, h4, c5, h5, c6, h6, c7, h7, c8, h8, c9, h9, h10⟩ := h
  have q1 : c1.1.isW = c0.1.isW := by rw [h1]; exact numD_isW ..
  have q2 : c2.1.isW = c1.1.isW := by rw [h2]; exact numD_isW ..
  have q3 : c3.1.isW = c2.1.isW := by rw [h3]; exact numD_isW ..
  have q4 : c4.1.isW = c3.1.isW := by rw [h4]; exact numD_isW ..
  have q5 : c5.1.isW = c4.1.isW := by rw [h5]; exact numD_isW ..
  have q6 : c6.1.isW = c5.1.isW := by rw [h6]; exact flagD_isW ..
  have q7 : c7.1.isW = c6.1.isW := by
    split at h7
    · exact StrT_isW h7
    · rw [h7.1]
  have q8 : c8.1.isW = c7.1.isW := by rw [h8]; exact flagD_isW ..
  have q9 : c9.1.isW = c8.1.isW := by rw [h9]; exact flagD_isW ..
  have q10 : c.1.isW = c9.1.isW := by rw [h10]; exact flagD_isW ..
  rw [q10, q9, q8, q7, q6, q5, q4, q3, q2, q1]
theorem TailT_isW {c0 c : Cd} {X0 X : List Sg} (h : TailT w e c0 X0 c X) : c.1.isW = c0.1.isW := by
  obtain ⟨c1, h1, c2, h2, c3, h3, c4, h4, c5, h5, c6, h6, c7, h7, c8, h8, h9⟩ := h
  have q1 : c1.1.isW = c0.1.isW := by rw [h1]; exact deltaD_isW ..
  have q2 : c2.1.isW = c1.1.isW := by rw [h2]; exact deltaD_isW ..
  have q3 : c3.1.isW = c2.1.isW := by rw [h3]; exact deltaD_isW ..
  have q4 : c4.1.isW = c3.1.isW := by rw [h4]; exact deltaD_isW ..
  have q5 : c5.1.isW = c4.1.isW := by rw [h5]; exact deltaD_isW ..
  have q6 : c6.1.isW = c5.1.isW := by rw [h6]; exact logD_isW ..
  have q7 : c7.1.isW = c6.1.isW := by rw [h7]; exact logD_isW ..
  have q8 : c8.1.isW = c7.1.isW := by rw [h8]; exact flagD_isW ..
  have q9 : c.1.isW = c8.1.isW := by
    split at h9
    · rw [h9.1]
    · exact FiltT_isW h9
  rw [q9, q8, q7, q6, q5, q4, q3, q2, q1]
theorem HeadT_isW {c0 c : Cd} {X0 X : List Sg} (h : HeadT w e c0 X0 c X) : c.1.isW = c0.1.isW := by
  obtain ⟨c1, h1, h⟩ := h
  have q1 : c1.1.isW = c0.1.isW := by rw [h1]; exact flagD_isW ..
  split at h
  · rw [h.1, ← q1]; exact numD_isW ..
  · obtain ⟨c2, h2, c3, h3, c4, h4, c5, h5, c6, h6, h7⟩ := h
    have q2 : c2.1.isW = c1.1.isW := by rw [h2]; exact flagD_isW ..
    have q3 : c3.1.isW = c2.1.isW := by rw [h3]; exact flagD_isW ..
    have q4 : c4.1.isW = c3.1.isW := by rw [h4]; exact numD_isW ..
    have q5 := h5.keepA.2.2
    have q6 : c6.1.isW = c5.1.isW := by rw [h6]; exact numD_isW ..
    rw [TailT_isW h7, q6, q5, q4, q3, q2, q1]
set_option maxHeartbeats 1000000 in
theorem c35 (D : Rdr U M jq b p) (fq : M.floor ≤ jq) (fs : M.floor ≤ M.nb.size) (fu : ∀ i, U i → M.floor ≤ i) (ub : ∀ i, U i → i < M.nb.size) :
    Cn Try.prog 35 #[PtrB jq, .agg #[.int .i64 w, .int .i64 e]] M (if mayS w e = true then TolP U jq M.nb.size M (HeadT w e (.r b p, 0, zP) []) else fun v N => v = .tuple #[.agg zP.cs, .int .i64 2] ∧ Chg (fun i => i = jq ∨ M.nb.size ≤ i) M N ∧ Rdr U N jq b p) := by
  have lq : jq < M.nb.size := by obtain ⟨A, c, g, _⟩ := D.ex; exact lt_of_at g
  have a := Mem.new_at M (.cells #[.int .i64 w, .int .i64 e] 23)
  have K1 : Keep M (M.new (.cells #[.int .i64 w, .int .i64 e] 23)) := .new _ _
  have s1 := Mem.new_size M (.cells #[.int .i64 w, .int .i64 e] 23)
  refine w35_0 ?_
  generalize M.new (.cells #[.int .i64 w, .int .i64 e] 23) = M1 at a K1 s1 ⊢
  have bz := Mem.new_at M1 (.cells zP.cs 41)
  have K2 : Keep M1 (M1.new (.cells zP.cs 41)) := .new _ _
  have s2 := Mem.new_size M1 (.cells zP.cs 41)
  have a2 := at_keep a K2
  show Cn Try.prog 33 _ (M1.new (.cells zP.cs 41)) _
  generalize M1.new (.cells zP.cs 41) = M2 at bz K2 s2 a2 ⊢
  have T2 := K1.trans K2
  have e0 : rFixed b p 0 = (0, 0, p) := by
    unfold rFixed
    have := D.pos
    rw [if_neg (by decide), if_neg (by omega)]
    rfl
  refine Cn.mono (c33 (D.keep T2) (by rw [T2.floor]; exact fq) 0) ?_
  rw [e0]
  rintro _ M3 ⟨rfl, C3, z3, D3⟩
  have a3 := at_chg a2 C3 (by omega)
  have b3 := at_chg bz C3 (by omega)
  have T3 : Chg (· = jq) M M3 := (T2.mono fun i _ h => h.elim).trans C3
  refine ty rfl (ty rfl (ty rfl (cF rfl (on (int_of (i := 0) a3 rfl) (on (int_of (i := 0 + 1) a3 rfl) (Cn.mono c14 ?_))))))
  rintro _ M4 ⟨rfl, K4⟩
  have T4 : Chg (· = jq) M M4 := T3.trans (K4.mono fun i _ h => h.elim)
  have a4 := at_keep a3 K4
  have b4 := at_keep b3 K4
  have D4 := D3.keep K4
  have f4 : M4.floor ≤ M.nb.size := by rw [T4.floor]; exact fs
  have z4 := K4.size
  have nU : ∀ i, M.nb.size ≤ i → ¬ U i := fun i hi h => by have := ub _ h; omega
  refine ty rfl (cne (fun hm => ?_) fun hm => ?_)
  · have hm' : mayS w e = false := by
      unfold chkS at hm
      cases h : mayS w e
      · rfl
      · rw [h] at hm; exact absurd rfl hm
    have e2 : chkS w e = 2 := by unfold chkS; rw [hm']; rfl
    rw [hm', e2]
    exact stA (cs := zP.cs) b4 (by omega) rfl rfl rfl fun M5 C5 z5 u5 => ldA u5 rfl ⟨rfl, (T4.mono fun i _ h => .inl h).trans (C5.mono fun i _ h => by omega), D4.chg C5 (by omega) fun i hi h => nU _ (by omega) hi⟩
  · have hm' : mayS w e = true := by
      unfold chkS at hm
      cases h : mayS w e
      · rw [h] at hm; cases hm
      · rfl
    rw [if_pos hm']
    have hmm := of_decide_eq_true hm'
    have hw : 16 ≤ w ∧ w ≤ 256 := ⟨hmm.1, hmm.2.1⟩
    have he : 16 ≤ e ∧ e ≤ 256 := ⟨hmm.2.2.1, hmm.2.2.2.1⟩
    have hA := Mem.new_at M4 (.cells zP.cs 41)
    have K5 : Keep M4 (M4.new (.cells zP.cs 41)) := .new _ _
    have s5 := Mem.new_size M4 (.cells zP.cs 41)
    show onS (((M4.new (.cells zP.cs 41)).new (.cells #[.pointer none, PtrB jq, .int .i64 0] 89)).intAt .i64 (2 * M.nb.size) 0) _
    generalize M4.new (.cells zP.cs 41) = M5 at hA K5 s5 ⊢
    have cA := Mem.new_at M5 (.cells #[.pointer none, PtrB jq, .int .i64 0] 89)
    have K6 : Keep M5 (M5.new (.cells #[.pointer none, PtrB jq, .int .i64 0] 89)) := .new _ _
    have s6 := Mem.new_size M5 (.cells #[.pointer none, PtrB jq, .int .i64 0] 89)
    generalize M5.new (.cells #[.pointer none, PtrB jq, .int .i64 0] 89) = M6 at cA K6 s6 ⊢
    have K46 := K5.trans K6
    have T6 : Chg (· = jq) M M6 := T4.trans (K46.mono fun i _ h => h.elim)
    have a6 := at_keep a4 K46
    have b6 := at_keep b4 K46
    have h6 := at_keep hA K6
    have f6 : M6.floor ≤ M.nb.size := by rw [T6.floor]; exact fs
    have H : Hm U M6 M5.nb.size jq M4.nb.size (.r b p, 0, zP) (0 + 90) := ⟨⟨D4.keep K46, fun i hi => by
      rcases hi with hi | hi | hi
      · rw [T6.floor]; exact fu i hi
      · rw [hi, T6.floor]; exact fq
      · omega, by omega, cA, nU _ (by omega), by omega, (by show 0 + 40 * (0 + 90) ≤ 80000000000; decide), fun i hi => by have := ub i hi; omega⟩, h6, nU _ (by omega), by omega, by omega, by omega⟩
    have HX : Xm U M6 M5.nb.size jq M4.nb.size (.r b p, 0, zP) [] := ⟨rfl, fun i hi => by simp [Sgs] at hi, fun a ha => by cases ha⟩
    refine on (int_of a6 rfl) (on (int_of a6 rfl) (Cn.mono (c50 (k := 0) hw he H HX (by simp) fun _ _ _ => rfl) ?_))
    rintro _ N ⟨_, U', c', X', hT, E, H', HX', hAA⟩
    have isr := isW_r (HeadT_isW hT)
    have bN := (E.at b6 (nU _ (by omega)) (by omega)).1
    have zN := E.chg.size
    have CE : Chg (fun i => U i ∨ i = jq ∨ M.nb.size ≤ i) M N := (T6.mono fun i _ h => .inr (.inl h)).trans (E.chg.mono fun i _ h => by rcases h with h | h | h | h <;> first | exact .inl h | omega)
    have far : ∀ a, c'.2.2.A = some a → M6.nb.size ≤ a.block / 2 := fun a ha => (hAA a ha).elim (fun q => by cases q) id
    have nU' : ¬ U' M1.nb.size := fun h => by
      rcases E.sub _ h with h | h
      · exact nU _ (by omega) h
      · omega
    have sub : ∀ i, U' i → U i ∨ M.nb.size ≤ i := fun i hi => (E.sub i hi).imp id fun h => by omega
    refine on (int_of (i := 0 + 2) H'.st.cod rfl) (cne (fun hn => on (int_of (i := 0 + 2) H'.st.cod rfl) (cF (decide_eq_false ?_) ?_)) fun hn => ?_)
    · intro hh
      have : (2 * M1.nb.size : Nat) = 2 * M5.nb.size := Option.some.inj hh
      omega
    · exact stA (cs := zP.cs) bN (by rw [CE.floor]; omega) rfl rfl rfl fun N1 C1 z1 u1 => ldA u1 rfl ⟨U', c', X', hT, sub, CE.trans (C1.mono fun i _ h => by omega), H'.st.dev.chg1 isr C1 (by omega) fun i hi h => nU' (h ▸ hi), fun i hi => by rw [z1]; exact H'.st.ub i hi, .inl ⟨by omega, rfl⟩⟩
    · exact ldA H'.hd rfl (stA (cs := c'.2.2.cs) bN (by rw [CE.floor]; omega) rfl rfl rfl fun N1 C1 z1 u1 => ldA u1 rfl ⟨U', c', X', hT, sub, CE.trans (C1.mono fun i _ h => by omega), H'.st.dev.chg1 isr C1 (by omega) fun i hi h => nU' (h ▸ hi), fun i hi => by rw [z1]; exact H'.st.ub i hi, .inr ⟨by omega, rfl, HX'.n, HX'.row.chg C1 fun a ha => .inr fun h => by have := far a ha; omega, fun a ha => .inr (by have := far a ha; omega)⟩⟩)
end
end Go.Zt


/- The functions' walks: for each function and each loop a rule of what it comes to. Printed by zw2.py. -/
set_option linter.unusedVariables false
set_option maxRecDepth 100000
namespace Go.Zt
open Go Go.Sim Go.Proofs

end Go.Zt


/- Layer 20: HeadsReads: the document's reader of headers. -/
set_option linter.unusedSimpArgs false
set_option linter.unusedVariables false
set_option maxRecDepth 100000
namespace Go.Zt
open Go Go.Sim Go.Proofs Go.RowKit

/-- Where the document's reader stands, its fault, and the header. -/
abbrev RS := Nat × Nat × Hd
def getR (b : List Nat) (p e : Nat) (n : Int) : Nat × Nat × Nat := if e ≠ 0 then (p, e, 0) else ((rFixed b p n).2.2, (rFixed b p n).2.1, (rFixed b p n).1)
def gI (b : List Nat) (r : RS) (n f : Int) (s : Int → Hd) : RS := ((getR b r.1 r.2.1 n).1, (getR b r.1 r.2.1 n).2.1, s ((getR b r.1 r.2.1 n).2.2 + f))
def gB (b : List Nat) (r : RS) (s : Bool → Hd) : RS := ((getR b r.1 r.2.1 1).1, (getR b r.1 r.2.1 1).2.1, s ((getR b r.1 r.2.1 1).2.2 == 1))
def logR (b : List Nat) (p e : Nat) (s : Int) : Nat × Nat × Int :=
  let g := getR b p e 2
  if g.2.1 = 0 ∧ logM g.2.2 s = false ∨ (2 : Int) < g.2.2 then (g.1, 5, g.2.2) else (g.1, g.2.1, g.2.2)
structure Rm (S : Nat → Prop) (M : Mem) (jr jq jh : Nat) (b : List Nat) (r : RS) : Prop where
  rd : RefR S M jq b r.1
  cod : M.nb[jr]? = some (.cells #[PtrB jq, .int .i64 (r.2.1 : Nat)] 109)
  hd : M.nb[jh]? = some (.cells r.2.2.cs 41)
  n1 : jr ≠ jq
  n2 : jh ≠ jq
  n3 : jh ≠ jr
  s1 : ¬ S jr
  s2 : ¬ S jh
  fr : M.floor ≤ jr
  fq : M.floor ≤ jq
  fh : M.floor ≤ jh
  fs : M.floor ≤ M.nb.size
  su : ∀ i, S i → i < jq
section
variable {S : Nat → Prop} {M N M0 : Mem} {jr jq jh lo : Nat} {b : List Nat} {r : RS}
theorem Rm.chg {T : Nat → Prop} (R : Rm S M jr jq jh b r) (k : Chg T M N) (h1 : ¬ T jr) (h2 : ¬ T jq) (h3 : ¬ T jh) (hS : ∀ i, S i → ¬ T i) : Rm S N jr jq jh b r :=
  ⟨R.rd.chg k h2 hS, at_chg R.cod k h1, at_chg R.hd k h3, R.n1, R.n2, R.n3, R.s1, R.s2, by rw [k.floor]; exact R.fr, by rw [k.floor]; exact R.fq, by rw [k.floor]; exact R.fh, by rw [k.floor]; exact Nat.le_trans R.fs k.size, R.su⟩
theorem Rm.keep (R : Rm S M jr jq jh b r) (k : Keep M N) : Rm S N jr jq jh b r := R.chg k (fun h => h) (fun h => h) (fun h => h) fun _ _ h => h
/-- The fault is set. -/
theorem Rm.err (R : Rm S M jr jq jh b r) (e : Nat) : ∃ N, M.put (2 * jr) 1 (.int .i64 (e : Nat)) = some N ∧ Chg (· = jr) M N ∧ N.nb.size = M.nb.size ∧ Rm S N jr jq jh b (r.1, e, r.2.2) := by
  obtain ⟨N, p, C, s, u⟩ := put1 1 (.int .i64 (e : Nat)) R.cod R.fr (by simp) rfl
  exact ⟨N, p, C, s, R.rd.chg C (fun h => R.n1 h.symm) fun i hi h => R.s1 (h ▸ hi), u, at_chg R.hd C R.n3, R.n1, R.n2, R.n3, R.s1, R.s2, by rw [C.floor]; exact R.fr, by rw [C.floor]; exact R.fq, by rw [C.floor]; exact R.fh, by rw [C.floor, s]; exact R.fs, R.su⟩
/-- A cell of the header is set. -/
theorem Rm.set (R : Rm S M jr jq jh b r) {o : Nat} {v : Value} (ho : o < 30) (h1 : oneCell v = true) {h' : Hd} (hs : h'.cs = r.2.2.cs.setIfInBounds o v) :
    ∃ N, M.put (2 * jh) o v = some N ∧ Chg (· = jh) M N ∧ N.nb.size = M.nb.size ∧ Rm S N jr jq jh b (r.1, r.2.1, h') := by
  obtain ⟨N, p, C, s, u⟩ := put1 o v R.hd R.fh (by exact ho) h1
  exact ⟨N, p, C, s, R.rd.chg C (fun h => R.n2 h.symm) fun i hi h => R.s2 (h ▸ hi), at_chg R.cod C fun h => R.n3 h.symm, by rw [u, hs], R.n1, R.n2, R.n3, R.s1, R.s2, by rw [C.floor]; exact R.fr, by rw [C.floor]; exact R.fq, by rw [C.floor]; exact R.fh, by rw [C.floor, s]; exact R.fs, R.su⟩
variable {Q : Mem → Prop}
def gL (b : List Nat) (r : RS) (s : Int → Hd) (z : Int) : RS := ((logR b r.1 r.2.1 z).1, (logR b r.1 r.2.1 z).2.1, s (logR b r.1 r.2.1 z).2.2)
end
end Go.Zt


/- Layer 20: HeadsReads: the document's filters and Read. -/
set_option linter.unusedSimpArgs false
set_option linter.unusedVariables false
set_option maxRecDepth 100000
namespace Go.Zt
open Go Go.Sim Go.Proofs Go.RowKit

section
variable {S : Nat → Prop} {M N M0 : Mem} {jr jq jh ja jb js lo : Nat} {b : List Nat} {r : RS}
end
end Go.Zt


/- Layer 20: HeadsReads: the document's filters, done. -/
set_option linter.unusedSimpArgs false
set_option linter.unusedVariables false
set_option maxRecDepth 100000
namespace Go.Zt
open Go Go.Sim Go.Proofs Go.RowKit

section
variable {S : Nat → Prop} {M N M0 : Mem} {jr jq jh ja jb js lo : Nat} {b : List Nat} {r : RS}
set_option maxHeartbeats 1000000 in
end
end Go.Zt


/- Layer 20: HeadsReads: the document's Read. -/
set_option linter.unusedSimpArgs false
set_option linter.unusedVariables false
set_option maxRecDepth 100000
namespace Go.Zt
open Go Go.Sim Go.Proofs Go.RowKit

section
variable {S : Nat → Prop} {M N M0 : Mem} {jr jq jh ja jb jx js jw lo : Nat} {b : List Nat} {r : RS} {w e : Int} {T : RS → List Sg → Prop}
set_option maxHeartbeats 1000000 in
end
end Go.Zt


/- Layer 20: HeadsReads: the program's reading and the document's are the same. Plain. -/
set_option linter.unusedSimpArgs false
set_option linter.unusedVariables false
set_option maxRecDepth 100000
namespace Go.Zt
open Go Go.Sim Go.Proofs Go.RowKit

def wo (h : Hd) : Hd := { h with A := none, n := 0, c := 0 }
structure Rel (π : Hd → Hd) (b : List Nat) (c : Cd) (r : RS) : Prop where
  d : c.1 = .r b r.1
  e : c.2.1 = r.2.1
  h : r.2.1 = 0 → π c.2.2 = π r.2.2
section
variable {π : Hd → Hd} {b : List Nat} {c c' : Cd} {r r' : RS}
theorem getR_err {p e : Nat} {n : Int} (h : (getR b p e n).2.1 = 0) : e = 0 := by
  unfold getR at h
  split at h
  · rename_i q; exact absurd h q
  · rename_i q; omega
theorem getR_zero {p e : Nat} {n : Int} (h : (getR b p e n).2.1 ≠ 0) : (getR b p e n).2.2 = 0 := by
  unfold getR rFixed at h ⊢
  split
  · rfl
  · rename_i q
    rw [if_neg q] at h
    split
    · rfl
    · split
      · rfl
      · rename_i q1 q2
        rw [if_neg q1, if_neg q2] at h
        exact absurd rfl h
theorem numD_r {p e : Nat} {v n f : Int} : (numD (.r b p) e v n f).1 = .r b (getR b p e n).1 ∧ (numD (.r b p) e v n f).2.1 = (getR b p e n).2.1 ∧ ((getR b p e n).2.1 = 0 → (numD (.r b p) e v n f).2.2 = ((getR b p e n).2.2 : Nat) + f) := by
  unfold numD getR
  by_cases he : e ≠ 0
  · rw [if_pos he, if_pos he]; exact ⟨rfl, rfl, fun h => absurd h he⟩
  · rw [if_neg he, if_neg he]; exact ⟨rfl, rfl, fun h => if_pos h⟩
theorem Rel.n (R : Rel π b c r) {v n f : Int} {s s' : Int → Hd} (hs : π c.2.2 = π r.2.2 → ∀ x, π (s x) = π (s' x)) (h1 : c' = nF c v s n f) (h2 : r' = gI b r n f s') : Rel π b c' r' := by
  obtain ⟨a1, a2, a3⟩ := numD_r (b := b) (p := r.1) (e := r.2.1) (v := v) (n := n) (f := f)
  subst h1 h2
  refine ⟨?_, ?_, fun h0 => ?_⟩
  · show (numD c.1 c.2.1 v n f).1 = _; rw [R.d, R.e]; exact a1
  · show (numD c.1 c.2.1 v n f).2.1 = _; rw [R.d, R.e]; exact a2
  · show π (s (numD c.1 c.2.1 v n f).2.2) = _
    rw [R.d, R.e, a3 h0]
    exact hs (R.h (getR_err h0)) _
theorem flagD_r {p e : Nat} {v : Bool} : (flagD (.r b p) e v).1 = .r b (getR b p e 1).1 ∧ (flagD (.r b p) e v).2.1 = (getR b p e 1).2.1 ∧ ((getR b p e 1).2.1 = 0 → (flagD (.r b p) e v).2.2 = ((getR b p e 1).2.2 == 1)) := by
  obtain ⟨a1, a2, a3⟩ := numD_r (b := b) (p := p) (e := e) (v := if v then 1 else 0) (n := 1) (f := 0)
  refine ⟨a1, a2, fun h0 => ?_⟩
  show ((numD (.r b p) e (if v then 1 else 0) 1 0).2.2 == 1) = _
  rw [a3 h0, Bool.eq_iff_iff]
  simp only [beq_iff_eq]
  omega
theorem Rel.f (R : Rel π b c r) {v : Bool} {s s' : Bool → Hd} (hs : π c.2.2 = π r.2.2 → ∀ x, π (s x) = π (s' x)) (h1 : c' = fF c v s) (h2 : r' = gB b r s') : Rel π b c' r' := by
  obtain ⟨a1, a2, a3⟩ := flagD_r (b := b) (p := r.1) (e := r.2.1) (v := v)
  subst h1 h2
  refine ⟨?_, ?_, fun h0 => ?_⟩
  · show (flagD c.1 c.2.1 v).1 = _; rw [R.d, R.e]; exact a1
  · show (flagD c.1 c.2.1 v).2.1 = _; rw [R.d, R.e]; exact a2
  · show π (s (flagD c.1 c.2.1 v).2.2) = _
    rw [R.d, R.e, a3 h0]
    exact hs (R.h (getR_err h0)) _
theorem logD_r {p e : Nat} {v z : Int} : (logD (.r b p) e v z).1 = .r b (logR b p e z).1 ∧ (logD (.r b p) e v z).2.1 = (logR b p e z).2.1 ∧ ((logR b p e z).2.1 = 0 → e = 0 ∧ (logD (.r b p) e v z).2.2 = (logR b p e z).2.2) := by
  obtain ⟨a1, a2, a3⟩ := numD_r (b := b) (p := p) (e := e) (v := v) (n := 2) (f := 0)
  unfold logD logR
  rw [a1, a2]
  have hz := getR_zero (b := b) (p := p) (e := e) (n := 2)
  have he := getR_err (b := b) (p := p) (e := e) (n := 2)
  generalize getR b p e 2 = g at *
  dsimp only
  by_cases h0 : g.2.1 = 0
  · rw [a3 h0, Int.add_zero]
    by_cases hm : logM g.2.2 z = false
    · rw [if_pos ⟨h0, hm⟩, if_pos (.inl ⟨h0, hm⟩)]
      exact ⟨rfl, rfl, fun q => by cases q⟩
    · have hm2 : ¬ (2 : Int) < g.2.2 := fun q => hm (by unfold logM; rw [decide_eq_false_iff_not]; omega)
      rw [if_neg (fun q => hm q.2), if_neg (fun q => q.elim (fun q => hm q.2) hm2)]
      exact ⟨a1, a2, fun _ => ⟨he h0, by rw [a3 h0, Int.add_zero]⟩⟩
  · rw [if_neg (fun q => h0 q.1), if_neg (fun q => q.elim (fun q => h0 q.1) fun q => by rw [hz h0] at q; omega)]
    exact ⟨a1, a2, fun q => absurd q h0⟩
theorem Rel.l (R : Rel π b c r) {s s' : Int → Hd} {v z : Int} (hs : π c.2.2 = π r.2.2 → ∀ x, π (s x) = π (s' x)) (h1 : c' = gF c v s z) (h2 : r' = gL b r s' z) : Rel π b c' r' := by
  obtain ⟨a1, a2, a3⟩ := logD_r (b := b) (p := r.1) (e := r.2.1) (v := v) (z := z)
  subst h1 h2
  refine ⟨?_, ?_, fun h0 => ?_⟩
  · show (logD c.1 c.2.1 v z).1 = _; rw [R.d, R.e]; exact a1
  · show (logD c.1 c.2.1 v z).2.1 = _; rw [R.d, R.e]; exact a2
  · show π (s (logD c.1 c.2.1 v z).2.2) = _
    rw [R.d, R.e, (a3 h0).2]
    exact hs (R.h (a3 h0).1) _
end
end Go.Zt


/- Layer 20: HeadsReads: the program's reading of a header and the document's are the same. Plain. -/
set_option linter.unusedSimpArgs false
set_option linter.unusedVariables false
set_option maxRecDepth 100000
namespace Go.Zt
open Go Go.Sim Go.Proofs Go.RowKit

/-- With a fault nothing more is read. -/
def Dd (c c' : Cd) : Prop := c.2.1 ≠ 0 → c'.1 = c.1 ∧ c'.2.1 = c.2.1
def De (r r' : RS) : Prop := r.2.1 ≠ 0 → r'.1 = r.1 ∧ r'.2.1 = r.2.1
theorem Dd.trans {a b c : Cd} (h : Dd a b) (k : Dd b c) : Dd a c := fun he => by
  obtain ⟨h1, h2⟩ := h he
  obtain ⟨k1, k2⟩ := k (by rw [h2]; exact he)
  exact ⟨k1.trans h1, k2.trans h2⟩
theorem De.trans {a b c : RS} (h : De a b) (k : De b c) : De a c := fun he => by
  obtain ⟨h1, h2⟩ := h he
  obtain ⟨k1, k2⟩ := k (by rw [h2]; exact he)
  exact ⟨k1.trans h1, k2.trans h2⟩
section
variable {b : List Nat} {w e : Int} {c c0 c1 : Cd} {r r0 r1 : RS} {X X' X0 : List Sg}
/-- Two readings that stand alike and have both a fault stay alike. -/
theorem Rel.dead {π π' : Hd → Hd} (R : Rel π b c0 r0) (hc : Dd c0 c) (hr : De r0 r) (he : r0.2.1 ≠ 0) : Rel π' b c r := by
  obtain ⟨a1, a2⟩ := hc (by rw [R.e]; exact he)
  obtain ⟨b1, b2⟩ := hr he
  exact ⟨by rw [a1, b1]; exact R.d, by rw [a2, b2]; exact R.e, fun h => absurd (by rw [← b2]; exact h) he⟩
end
end Go.Zt

