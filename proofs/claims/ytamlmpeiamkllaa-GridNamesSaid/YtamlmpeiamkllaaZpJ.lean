/- The functions' walks: for each function and each loop a rule of what it comes to. Printed by zw2.py. -/
import Derived.Test.YtamlmpeiamkllaaProg
import Derived.Test.YtamlmpeiamkllaaZpA
import Derived.Test.YtamlmpeiamkllaaZrT
set_option linter.unusedVariables false
set_option maxRecDepth 100000
namespace Go.Zt
open Go Go.Sim Go.Proofs

def tyZpJ0 : List Sc := [.int .i64, .int .i64, .int .i64, .int .i64, .bool, .bool, .int .i64, .int .i64, .int .i64, .int .i64, .int .i64, .int .i64, .int .i64, .bool, .int .i64, .int .i64, .int .i64, .int .i64, .int .i64, .int .i64, .int .i64, .int .i64, .bool]
/-! ### zoetrope/zoetropelaw17.told: function 18 -/
def K18 : List (List It × List Nat) := [([.code [1,1,1,0,1], .code [1,1,1,1]], [0, 1, 5, 43]), ([.code [1,1,1,1,1,1,0,1], .code [1,1,1,1,1,1,1]], [0, 1, 5, 73]), ([.code [1,1,1,1,1,1,1,1,1,0,1], .code [1,1,1,1,1,1,1,1,1,1]], [0, 1, 5, 99]), ([.code [1,1,1,1,1,1,1,1,1,1,1,1,0,1], .code [1,1,1,1,1,1,1,1,1,1,1,1,1]], [0, 1, 5, 125])]
def Z18 : List (List Nat × List Nat) := []
theorem b18 : Try.prog.funcs[18]? = some Try.f18 ∧ (Orc.tab Try.prog).lookup 18 = none ∧ Try.f18.body = some (codeOf Try.f18) := ⟨by kernel_rfl, by kernel_rfl, by kernel_rfl⟩
def A18_1 (x0 x1 x5 : Option Addr) (x43 : Bool) (M : Mem) (Q : Value → Mem → Prop) : Prop := LvP Try.prog Try.f18 [(0, .pointer x0), (1, .pointer x1), (5, .pointer x5), (43, .bool x43)] [.code [1,1,1,0,1], .code [1,1,1,1]] M Q
def A18_2 (x0 x1 x5 : Option Addr) (x73 : Bool) (M : Mem) (Q : Value → Mem → Prop) : Prop := LvP Try.prog Try.f18 [(0, .pointer x0), (1, .pointer x1), (5, .pointer x5), (73, .bool x73)] [.code [1,1,1,1,1,1,0,1], .code [1,1,1,1,1,1,1]] M Q
def A18_3 (x0 x1 x5 : Option Addr) (x99 : Bool) (M : Mem) (Q : Value → Mem → Prop) : Prop := LvP Try.prog Try.f18 [(0, .pointer x0), (1, .pointer x1), (5, .pointer x5), (99, .bool x99)] [.code [1,1,1,1,1,1,1,1,1,0,1], .code [1,1,1,1,1,1,1,1,1,1]] M Q
def A18_4 (x0 x1 x5 : Option Addr) (x125 : Bool) (M : Mem) (Q : Value → Mem → Prop) : Prop := LvP Try.prog Try.f18 [(0, .pointer x0), (1, .pointer x1), (5, .pointer x5), (125, .bool x125)] [.code [1,1,1,1,1,1,1,1,1,1,1,1,0,1], .code [1,1,1,1,1,1,1,1,1,1,1,1,1]] M Q
theorem w18_0 {x0 x1 : Option Addr} {x2_0 x2_1 x2_2 x2_3 x2_4 : Int} {M : Mem} {Q : Value → Mem → Prop} (H :
    onS ((M.new (.cells #[.int .i64 x2_0, .int .i64 x2_1, .int .i64 x2_2, .int .i64 x2_3, .int .i64 x2_4] 56)).intAt .i64 (2 * M.nb.size) 0) fun x1' =>
    onS ((M.new (.cells #[.int .i64 x2_0, .int .i64 x2_1, .int .i64 x2_2, .int .i64 x2_3, .int .i64 x2_4] 56)).intAt .i64 (2 * M.nb.size) (0 + 1)) fun x2' =>
    Cn Try.prog 14 #[.pointer x0, .int .i64 x1', .int .i64 x2'] (M.new (.cells #[.int .i64 x2_0, .int .i64 x2_1, .int .i64 x2_2, .int .i64 x2_3, .int .i64 x2_4] 56)) fun v3' N3' =>
     tyS (asU 2 v3') fun cs4' =>
     tyS (asA 23 (cs4'.getD 0 undef)) fun cs5' =>
     asCellsP tyZpJ0 0 cs5' fun vs6' =>
     tyS (asB (cs4'.getD 1 undef)) fun b7' =>
     tyS (asA 23 (.agg vs6'.toArray)) fun cs8' =>
     asCellsP tyZpJ0 0 cs8' fun vs9' =>
     stP (some 23) vs9'.toArray (N3'.new (.cells #[.int .i64 0, .int .i64 0, .int .i64 0, .int .i64 0, .bool false, .bool false, .int .i64 0, .int .i64 0, .int .i64 0, .int .i64 0, .int .i64 0, .int .i64 0, .int .i64 0, .bool false, .int .i64 0, .int .i64 0, .int .i64 0, .int .i64 0, .int .i64 0, .int .i64 0, .int .i64 0, .int .i64 0, .bool false] 27)) (2 * N3'.nb.size) 0 fun M10' =>
     onS (M10'.intAt .i64 (2 * M.nb.size) 0) fun x11' =>
     onS (M10'.intAt .i64 (2 * M.nb.size) (0 + 1)) fun x12' =>
     Cn Try.prog 36 #[.pointer x1, .int .i64 x11', .int .i64 x12'] M10' fun v13' N13' =>
      tyS (asU 2 v13') fun cs14' =>
      tyS (asA 23 (cs14'.getD 0 undef)) fun cs15' =>
      asCellsP tyZpJ0 0 cs15' fun vs16' =>
      tyS (asB (cs14'.getD 1 undef)) fun b17' =>
      tyS (asA 23 (.agg vs16'.toArray)) fun cs18' =>
      asCellsP tyZpJ0 0 cs18' fun vs19' =>
      stP (some 23) vs19'.toArray (N13'.new (.cells #[.int .i64 0, .int .i64 0, .int .i64 0, .int .i64 0, .bool false, .bool false, .int .i64 0, .int .i64 0, .int .i64 0, .int .i64 0, .int .i64 0, .int .i64 0, .int .i64 0, .bool false, .int .i64 0, .int .i64 0, .int .i64 0, .int .i64 0, .int .i64 0, .int .i64 0, .int .i64 0, .int .i64 0, .bool false] 27)) (2 * N13'.nb.size) 0 fun M20' =>
      ldP tyZpJ0 M20' (2 * N3'.nb.size) 0 fun vs21' =>
      ldP tyZpJ0 M20' (2 * N13'.nb.size) 0 fun vs22' =>
      puS (binV Try.prog .neq 27 27 (.agg vs21'.toArray) (.agg vs22'.toArray)) fun v23' =>
      tyS (asB v23') fun b24' =>
      cnd b24' (
       A18_1 x0 x1 (some ⟨2 * M.nb.size, 0, none⟩) true M20' Q) (
       A18_1 x0 x1 (some ⟨2 * M.nb.size, 0, none⟩) (!(b7' == b17')) M20' Q)) :
    Cn Try.prog 18 #[.pointer x0, .pointer x1, .agg #[.int .i64 x2_0, .int .i64 x2_1, .int .i64 x2_2, .int .i64 x2_3, .int .i64 x2_4]] M Q :=
  Cn.mk (cuts := K18) (sp := Z18) 900 b18 rfl rfl H fun G => by kernel_rfl

theorem w18_1 {x0 x1 x5 : Option Addr} {x43 : Bool} {M : Mem} {Q : Value → Mem → Prop} (H :
    cnd x43 (
     Q (.bool false) M) (
     adS x5 fun a25' =>
     onS (M.intAt .i64 a25'.block a25'.off) fun x26' =>
     adS x5 fun a27' =>
     onS (M.intAt .i64 a27'.block (a27'.off + 1)) fun x28' =>
     adS x5 fun a29' =>
     onS (M.intAt .i64 a29'.block (a29'.off + 2)) fun x30' =>
     Cn Try.prog 21 #[.pointer x0, .int .i64 x26', .int .i64 x28', .int .i64 x30'] M fun v31' N31' =>
      tyS (asU 2 v31') fun cs32' =>
      tyS (asI .i64 (cs32'.getD 0 undef)) fun x33' =>
      tyS (asI .i64 (cs32'.getD 1 undef)) fun x34' =>
      adS x5 fun a35' =>
      onS (N31'.intAt .i64 a35'.block a35'.off) fun x36' =>
      adS x5 fun a37' =>
      onS (N31'.intAt .i64 a37'.block (a37'.off + 1)) fun x38' =>
      adS x5 fun a39' =>
      onS (N31'.intAt .i64 a39'.block (a39'.off + 2)) fun x40' =>
      Cn Try.prog 37 #[.pointer x1, .int .i64 x36', .int .i64 x38', .int .i64 x40'] N31' fun v41' N41' =>
       tyS (asU 2 v41') fun cs42' =>
       tyS (asI .i64 (cs42'.getD 0 undef)) fun x43' =>
       tyS (asI .i64 (cs42'.getD 1 undef)) fun x44' =>
       cnd (x33' != x43') (
        A18_2 x0 x1 x5 true N41' Q) (
        A18_2 x0 x1 x5 (x34' != x44') N41' Q))) :
    A18_1 x0 x1 x5 x43 M Q :=
  LvP.mk (cuts := K18) (sp := Z18) 900 H fun G => by kernel_rfl

theorem w18_2 {x0 x1 x5 : Option Addr} {x73 : Bool} {M : Mem} {Q : Value → Mem → Prop} (H :
    cnd x73 (
     Q (.bool false) M) (
     adS x5 fun a45' =>
     onS (M.intAt .i64 a45'.block a45'.off) fun x46' =>
     adS x5 fun a47' =>
     onS (M.intAt .i64 a47'.block (a47'.off + 1)) fun x48' =>
     Cn Try.prog 11 #[.pointer x0, .int .i64 x46', .int .i64 x48'] M fun v49' N49' =>
      tyS (asU 2 v49') fun cs50' =>
      tyS (asI .i64 (cs50'.getD 0 undef)) fun x51' =>
      tyS (asI .i64 (cs50'.getD 1 undef)) fun x52' =>
      adS x5 fun a53' =>
      onS (N49'.intAt .i64 a53'.block a53'.off) fun x54' =>
      adS x5 fun a55' =>
      onS (N49'.intAt .i64 a55'.block (a55'.off + 1)) fun x56' =>
      Cn Try.prog 38 #[.pointer x1, .int .i64 x54', .int .i64 x56'] N49' fun v57' N57' =>
       tyS (asU 2 v57') fun cs58' =>
       tyS (asI .i64 (cs58'.getD 0 undef)) fun x59' =>
       tyS (asI .i64 (cs58'.getD 1 undef)) fun x60' =>
       cnd (x51' != x59') (
        A18_3 x0 x1 x5 true N57' Q) (
        A18_3 x0 x1 x5 (x52' != x60') N57' Q))) :
    A18_2 x0 x1 x5 x73 M Q :=
  LvP.mk (cuts := K18) (sp := Z18) 900 H fun G => by kernel_rfl

theorem w18_3 {x0 x1 x5 : Option Addr} {x99 : Bool} {M : Mem} {Q : Value → Mem → Prop} (H :
    cnd x99 (
     Q (.bool false) M) (
     adS x5 fun a61' =>
     onS (M.intAt .i64 a61'.block a61'.off) fun x62' =>
     adS x5 fun a63' =>
     onS (M.intAt .i64 a63'.block (a63'.off + 1)) fun x64' =>
     Cn Try.prog 12 #[.pointer x0, .int .i64 x62', .int .i64 x64'] M fun v65' N65' =>
      tyS (asU 2 v65') fun cs66' =>
      tyS (asI .i64 (cs66'.getD 0 undef)) fun x67' =>
      tyS (asI .i64 (cs66'.getD 1 undef)) fun x68' =>
      adS x5 fun a69' =>
      onS (N65'.intAt .i64 a69'.block a69'.off) fun x70' =>
      adS x5 fun a71' =>
      onS (N65'.intAt .i64 a71'.block (a71'.off + 1)) fun x72' =>
      Cn Try.prog 39 #[.pointer x1, .int .i64 x70', .int .i64 x72'] N65' fun v73' N73' =>
       tyS (asU 2 v73') fun cs74' =>
       tyS (asI .i64 (cs74'.getD 0 undef)) fun x75' =>
       tyS (asI .i64 (cs74'.getD 1 undef)) fun x76' =>
       cnd (x67' != x75') (
        A18_4 x0 x1 x5 true N73' Q) (
        A18_4 x0 x1 x5 (x68' != x76') N73' Q))) :
    A18_3 x0 x1 x5 x99 M Q :=
  LvP.mk (cuts := K18) (sp := Z18) 900 H fun G => by kernel_rfl

theorem w18_4 {x0 x1 x5 : Option Addr} {x125 : Bool} {M : Mem} {Q : Value → Mem → Prop} (H :
    cnd x125 (
     Q (.bool false) M) (
     adS x5 fun a77' =>
     onS (M.intAt .i64 a77'.block a77'.off) fun x78' =>
     adS x5 fun a79' =>
     onS (M.intAt .i64 a79'.block (a79'.off + 1)) fun x80' =>
     adS x5 fun a81' =>
     onS (M.intAt .i64 a81'.block (a81'.off + 3)) fun x82' =>
     adS x5 fun a83' =>
     onS (M.intAt .i64 a83'.block (a83'.off + 2)) fun x84' =>
     stP (some 4) #[.int .i64 x78', .int .i64 x80', .int .i64 x82', .int .i64 x84'] (M.new (.cells #[.int .i64 0, .int .i64 0, .int .i64 0, .int .i64 0] 35)) (2 * M.nb.size) 0 fun M85' =>
     onS (M85'.intAt .i64 (2 * M.nb.size) 0) fun x86' =>
     onS (M85'.intAt .i64 (2 * M.nb.size) (0 + 1)) fun x87' =>
     onS (M85'.intAt .i64 (2 * M.nb.size) (0 + 2)) fun x88' =>
     onS (M85'.intAt .i64 (2 * M.nb.size) (0 + 3)) fun x89' =>
     adS x5 fun a90' =>
     onS (M85'.intAt .i64 a90'.block (a90'.off + 4)) fun x91' =>
     Cn Try.prog 10 #[.pointer x0, .agg #[.int .i64 x86', .int .i64 x87', .int .i64 x88', .int .i64 x89'], .int .i64 x91'] M85' fun v92' N92' =>
      tyS (asU 3 v92') fun cs93' =>
      tyS (asA 4 (cs93'.getD 0 undef)) fun cs94' =>
      tyS (asI .i64 (cs94'.getD 0 undef)) fun x95' =>
      tyS (asI .i64 (cs94'.getD 1 undef)) fun x96' =>
      tyS (asI .i64 (cs94'.getD 2 undef)) fun x97' =>
      tyS (asI .i64 (cs94'.getD 3 undef)) fun x98' =>
      tyS (asI .i64 (cs93'.getD 1 undef)) fun x99' =>
      tyS (asI .i64 (cs93'.getD 2 undef)) fun x100' =>
      stP (some 4) #[.int .i64 x95', .int .i64 x96', .int .i64 x97', .int .i64 x98'] (N92'.new (.cells #[.int .i64 0, .int .i64 0, .int .i64 0, .int .i64 0] 25)) (2 * N92'.nb.size) 0 fun M101' =>
      onS (M101'.intAt .i64 (2 * M.nb.size) 0) fun x102' =>
      onS (M101'.intAt .i64 (2 * M.nb.size) (0 + 1)) fun x103' =>
      onS (M101'.intAt .i64 (2 * M.nb.size) (0 + 2)) fun x104' =>
      onS (M101'.intAt .i64 (2 * M.nb.size) (0 + 3)) fun x105' =>
      adS x5 fun a106' =>
      onS (M101'.intAt .i64 a106'.block (a106'.off + 4)) fun x107' =>
      Cn Try.prog 40 #[.pointer x1, .agg #[.int .i64 x102', .int .i64 x103', .int .i64 x104', .int .i64 x105'], .int .i64 x107'] M101' fun v108' N108' =>
       tyS (asU 3 v108') fun cs109' =>
       tyS (asA 4 (cs109'.getD 0 undef)) fun cs110' =>
       tyS (asI .i64 (cs110'.getD 0 undef)) fun x111' =>
       tyS (asI .i64 (cs110'.getD 1 undef)) fun x112' =>
       tyS (asI .i64 (cs110'.getD 2 undef)) fun x113' =>
       tyS (asI .i64 (cs110'.getD 3 undef)) fun x114' =>
       tyS (asI .i64 (cs109'.getD 1 undef)) fun x115' =>
       tyS (asI .i64 (cs109'.getD 2 undef)) fun x116' =>
       stP (some 4) #[.int .i64 x111', .int .i64 x112', .int .i64 x113', .int .i64 x114'] (N108'.new (.cells #[.int .i64 0, .int .i64 0, .int .i64 0, .int .i64 0] 25)) (2 * N108'.nb.size) 0 fun M117' =>
       onS (M117'.intAt .i64 (2 * N92'.nb.size) 0) fun x118' =>
       onS (M117'.intAt .i64 (2 * N92'.nb.size) (0 + 1)) fun x119' =>
       onS (M117'.intAt .i64 (2 * N92'.nb.size) (0 + 2)) fun x120' =>
       onS (M117'.intAt .i64 (2 * N92'.nb.size) (0 + 3)) fun x121' =>
       onS (M117'.intAt .i64 (2 * N108'.nb.size) 0) fun x122' =>
       onS (M117'.intAt .i64 (2 * N108'.nb.size) (0 + 1)) fun x123' =>
       onS (M117'.intAt .i64 (2 * N108'.nb.size) (0 + 2)) fun x124' =>
       onS (M117'.intAt .i64 (2 * N108'.nb.size) (0 + 3)) fun x125' =>
       puS (binV Try.prog .eql 25 25 (.agg #[.int .i64 x118', .int .i64 x119', .int .i64 x120', .int .i64 x121']) (.agg #[.int .i64 x122', .int .i64 x123', .int .i64 x124', .int .i64 x125'])) fun v126' =>
       tyS (asB v126') fun b127' =>
       cnd b127' (
        cnd (x99' == x115') (
         Q (.bool (x100' == x116')) M117') (
         Q (.bool false) M117')) (
        Q (.bool false) M117'))) :
    A18_4 x0 x1 x5 x125 M Q :=
  LvP.mk (cuts := K18) (sp := Z18) 900 H fun G => by kernel_rfl


end Go.Zt
