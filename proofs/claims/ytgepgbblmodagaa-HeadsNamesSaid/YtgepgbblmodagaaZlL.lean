/- The functions' walks: for each function and each loop a rule of what it comes to. Printed by zw2.py. -/
import Derived.Test.YtgepgbblmodagaaProg
import Derived.Test.YtgepgbblmodagaaZkA
import Derived.Test.YtgepgbblmodagaaZqT
import Derived.Test.YtgepgbblmodagaaZnI
import Derived.Test.YtgepgbblmodagaaZmO
import Derived.Test.YtgepgbblmodagaaZlP
import Derived.Test.YtgepgbblmodagaaZmE
import Derived.Test.YtgepgbblmodagaaZkN
set_option linter.unusedVariables false
set_option maxRecDepth 100000
namespace Go.Zt
open Go Go.Sim Go.Proofs
def K8:List (List It × List Nat):=[([.code [1,1,1,0,1],.code [1,1,1,1]],[1,39]),([.code [1,1,1,1,1,1,0,1,0,0],.lp [1,1,1,1,1,1,0,1,0,0],.blk 0,.code [1,1,1,1,1,1,1]],[1,4,5,6]),([.code [1,1,1,1,1,1,0,1,0,0,1,0,0,1],.blk 1,.code [1,1,1,1,1,1,0,1,0,0,1,1],.lp [1,1,1,1,1,1,0,1,0,0],.blk 0,.code [1,1,1,1,1,1,1]],[1,4,5,6,94]),([.code [1,1,1,1,1,1,1,0,1,0,0],.lp [1,1,1,1,1,1,1,0,1,0,0],.blk 2,.code [1,1,1,1,1,1,1,1]],[1,7]),([.code [1,1,1,1,1,1,1,0,1,0,0,1,0,0,1,1],.blk 3,.code [1,1,1,1,1,1,1,0,1,0,0,1,1],.lp [1,1,1,1,1,1,1,0,1,0,0],.blk 2,.code [1,1,1,1,1,1,1,1]],[1,7,112]),([.code [1,1,1,1,1,1,1,1,1,1,1,1,1,1,1,1,0,1],.code [1,1,1,1,1,1,1,1,1,1,1,1,1,1,1,1,1]],[1,142]),([.rg [1,1,1,1,1,1,1,1,1,1,1,1,1,1,1,1,1,0] 10,.code [1,1,1,1,1,1,1,1,1,1,1,1,1,1,1,1,1,1]],[1,152])]
def Z8:List (List Nat × List Nat):=[([1,1,1,1,1,1,1,1,1,1,1,1,1,1,1,1,1,0],[4,10,19])]
theorem b8:Try.prog.funcs[8]?=some Try.f8∧(Orc.tab Try.prog).lookup 8=none∧Try.f8.body=some (codeOf Try.f8):=⟨by kernel_rfl,by kernel_rfl,by kernel_rfl⟩
def A8_1 (x1:Option Addr) (x39:Bool) (M:Mem) (Q:Value→Mem→Prop):Prop:=LvP Try.prog Try.f8 [(1,.pointer x1),(39,.bool x39)] [.code [1,1,1,0,1],.code [1,1,1,1]] M Q
def A8_2 (x1 Ax4:Option Addr) (lx4 cx4:Nat) (Ax5:Option Addr) (lx5 cx5:Nat) (x6:Int) (M:Mem) (Q:Value→Mem→Prop):Prop:=LvP Try.prog Try.f8 [(1,.pointer x1),(4,.slice Ax4 lx4 cx4),(5,.slice Ax5 lx5 cx5),(6,.int .i64 x6)] [.code [1,1,1,1,1,1,0,1,0,0],.lp [1,1,1,1,1,1,0,1,0,0],.blk 0,.code [1,1,1,1,1,1,1]] M Q
def A8_3 (x1 Ax4:Option Addr) (lx4 cx4:Nat) (Ax5:Option Addr) (lx5 cx5:Nat) (x6:Int) (x94:Bool) (M:Mem) (Q:Value→Mem→Prop):Prop:=LvP Try.prog Try.f8 [(1,.pointer x1),(4,.slice Ax4 lx4 cx4),(5,.slice Ax5 lx5 cx5),(6,.int .i64 x6),(94,.bool x94)] [.code [1,1,1,1,1,1,0,1,0,0,1,0,0,1],.blk 1,.code [1,1,1,1,1,1,0,1,0,0,1,1],.lp [1,1,1,1,1,1,0,1,0,0],.blk 0,.code [1,1,1,1,1,1,1]] M Q
def A8_4 (x1:Option Addr) (x7:Int) (M:Mem) (Q:Value→Mem→Prop):Prop:=LvP Try.prog Try.f8 [(1,.pointer x1),(7,.int .i64 x7)] [.code [1,1,1,1,1,1,1,0,1,0,0],.lp [1,1,1,1,1,1,1,0,1,0,0],.blk 2,.code [1,1,1,1,1,1,1,1]] M Q
def A8_5 (x1:Option Addr) (x7:Int) (x112:Bool) (M:Mem) (Q:Value→Mem→Prop):Prop:=LvP Try.prog Try.f8 [(1,.pointer x1),(7,.int .i64 x7),(112,.bool x112)] [.code [1,1,1,1,1,1,1,0,1,0,0,1,0,0,1,1],.blk 3,.code [1,1,1,1,1,1,1,0,1,0,0,1,1],.lp [1,1,1,1,1,1,1,0,1,0,0],.blk 2,.code [1,1,1,1,1,1,1,1]] M Q
def A8_6 (x1:Option Addr) (x142:Bool) (M:Mem) (Q:Value→Mem→Prop):Prop:=LvP Try.prog Try.f8 [(1,.pointer x1),(142,.bool x142)] [.code [1,1,1,1,1,1,1,1,1,1,1,1,1,1,1,1,0,1],.code [1,1,1,1,1,1,1,1,1,1,1,1,1,1,1,1,1]] M Q
def A8_7 (x1:Option Addr) (x152:Bool) (M:Mem) (Q:Value→Mem→Prop):Prop:=LvP Try.prog Try.f8 [(1,.pointer x1),(152,.bool x152)] [.rg [1,1,1,1,1,1,1,1,1,1,1,1,1,1,1,1,1,0] 10,.code [1,1,1,1,1,1,1,1,1,1,1,1,1,1,1,1,1,1]] M Q
theorem w8_0 {M:Mem} {Q:Value→Mem→Prop} (H:
 stP (some 2) #[.int .i64 64,.int .i64 32] (M.new (.cells #[.int .i64 0,.int .i64 0] 23)) (2*M.nb.size) 0 fun M1'=>
 onS (M1'.intAt .i64 (2*M.nb.size) 0) fun x2'=>
 onS (M1'.intAt .i64 (2*M.nb.size) (0+1)) fun x3'=>
 Cn Try.prog 35 #[.pointer none,.agg #[.int .i64 x2',.int .i64 x3']] M1' fun v4' N4'=>
 tyS (asU 2 v4') fun cs5'=>
 tyS (asA 30 (cs5'.getD 0 undef)) fun cs6'=>
 tyS (asB (cs6'.getD 0 undef)) fun b7'=>
 tyS (asI .i64 (cs6'.getD 1 undef)) fun x8'=>
 tyS (asB (cs6'.getD 2 undef)) fun b9'=>
 tyS (asB (cs6'.getD 3 undef)) fun b10'=>
 tyS (asI .i64 (cs6'.getD 4 undef)) fun x11'=>
 tyS (asI .i64 (cs6'.getD 5 undef)) fun x12'=>
 tyS (asI .i64 (cs6'.getD 6 undef)) fun x13'=>
 tyS (asI .i64 (cs6'.getD 7 undef)) fun x14'=>
 tyS (asI .i64 (cs6'.getD 8 undef)) fun x15'=>
 tyS (asI .i64 (cs6'.getD 9 undef)) fun x16'=>
 tyS (asI .i64 (cs6'.getD 10 undef)) fun x17'=>
 tyS (asI .i64 (cs6'.getD 11 undef)) fun x18'=>
 tyS (asI .i64 (cs6'.getD 12 undef)) fun x19'=>
 tyS (asI .i64 (cs6'.getD 13 undef)) fun x20'=>
 tyS (asI .i64 (cs6'.getD 14 undef)) fun x21'=>
 tyS (asI .i64 (cs6'.getD 15 undef)) fun x22'=>
 tyS (asI .i64 (cs6'.getD 16 undef)) fun x23'=>
 tyS (asB (cs6'.getD 17 undef)) fun b24'=>
 tyS (asI .i64 (cs6'.getD 18 undef)) fun x25'=>
 tyS (asI .i64 (cs6'.getD 19 undef)) fun x26'=>
 tyS (asI .i64 (cs6'.getD 20 undef)) fun x27'=>
 tyS (asI .i64 (cs6'.getD 21 undef)) fun x28'=>
 tyS (asI .i64 (cs6'.getD 22 undef)) fun x29'=>
 tyS (asB (cs6'.getD 23 undef)) fun b30'=>
 tyS (asI .i64 (cs6'.getD 24 undef)) fun x31'=>
 tyS (asI .i64 (cs6'.getD 25 undef)) fun x32'=>
 tyS (asS (cs6'.getD 26 undef)) fun s33'=>
 tyS (asB (cs6'.getD 27 undef)) fun b34'=>
 tyS (asB (cs6'.getD 28 undef)) fun b35'=>
 tyS (asB (cs6'.getD 29 undef)) fun b36'=>
 tyS (asI .i64 (cs5'.getD 1 undef)) fun x37'=>
 stP (some 30) #[.bool b7',.int .i64 x8',.bool b9',.bool b10',.int .i64 x11',.int .i64 x12',.int .i64 x13',.int .i64 x14',.int .i64 x15',.int .i64 x16',.int .i64 x17',.int .i64 x18',.int .i64 x19',.int .i64 x20',.int .i64 x21',.int .i64 x22',.int .i64 x23',.bool b24',.int .i64 x25',.int .i64 x26',.int .i64 x27',.int .i64 x28',.int .i64 x29',.bool b30',.int .i64 x31',.int .i64 x32',.slice s33'.1 (s33'.2.1) (s33'.2.2),.bool b34',.bool b35',.bool b36'] (N4'.new (.cells #[.bool false,.int .i64 0,.bool false,.bool false,.int .i64 0,.int .i64 0,.int .i64 0,.int .i64 0,.int .i64 0,.int .i64 0,.int .i64 0,.int .i64 0,.int .i64 0,.int .i64 0,.int .i64 0,.int .i64 0,.int .i64 0,.bool false,.int .i64 0,.int .i64 0,.int .i64 0,.int .i64 0,.int .i64 0,.bool false,.int .i64 0,.int .i64 0,.slice none 0 0,.bool false,.bool false,.bool false] 41)) (2*N4'.nb.size) 0 fun M38'=>
 Cn Try.prog 41 #[] (M38'.res 1) fun v39' N39'=>
 tyS (asA 30 v39') fun cs40'=>
 tyS (asB (cs40'.getD 0 undef)) fun b41'=>
 tyS (asI .i64 (cs40'.getD 1 undef)) fun x42'=>
 tyS (asB (cs40'.getD 2 undef)) fun b43'=>
 tyS (asB (cs40'.getD 3 undef)) fun b44'=>
 tyS (asI .i64 (cs40'.getD 4 undef)) fun x45'=>
 tyS (asI .i64 (cs40'.getD 5 undef)) fun x46'=>
 tyS (asI .i64 (cs40'.getD 6 undef)) fun x47'=>
 tyS (asI .i64 (cs40'.getD 7 undef)) fun x48'=>
 tyS (asI .i64 (cs40'.getD 8 undef)) fun x49'=>
 tyS (asI .i64 (cs40'.getD 9 undef)) fun x50'=>
 tyS (asI .i64 (cs40'.getD 10 undef)) fun x51'=>
 tyS (asI .i64 (cs40'.getD 11 undef)) fun x52'=>
 tyS (asI .i64 (cs40'.getD 12 undef)) fun x53'=>
 tyS (asI .i64 (cs40'.getD 13 undef)) fun x54'=>
 tyS (asI .i64 (cs40'.getD 14 undef)) fun x55'=>
 tyS (asI .i64 (cs40'.getD 15 undef)) fun x56'=>
 tyS (asI .i64 (cs40'.getD 16 undef)) fun x57'=>
 tyS (asB (cs40'.getD 17 undef)) fun b58'=>
 tyS (asI .i64 (cs40'.getD 18 undef)) fun x59'=>
 tyS (asI .i64 (cs40'.getD 19 undef)) fun x60'=>
 tyS (asI .i64 (cs40'.getD 20 undef)) fun x61'=>
 tyS (asI .i64 (cs40'.getD 21 undef)) fun x62'=>
 tyS (asI .i64 (cs40'.getD 22 undef)) fun x63'=>
 tyS (asB (cs40'.getD 23 undef)) fun b64'=>
 tyS (asI .i64 (cs40'.getD 24 undef)) fun x65'=>
 tyS (asI .i64 (cs40'.getD 25 undef)) fun x66'=>
 tyS (asS (cs40'.getD 26 undef)) fun s67'=>
 tyS (asB (cs40'.getD 27 undef)) fun b68'=>
 tyS (asB (cs40'.getD 28 undef)) fun b69'=>
 tyS (asB (cs40'.getD 29 undef)) fun b70'=>
 Cn Try.prog 24 #[.pointer none,.agg #[.bool b41',.int .i64 x42',.bool b43',.bool b44',.int .i64 x45',.int .i64 x46',.int .i64 x47',.int .i64 x48',.int .i64 x49',.int .i64 x50',.int .i64 x51',.int .i64 x52',.int .i64 x53',.int .i64 x54',.int .i64 x55',.int .i64 x56',.int .i64 x57',.bool b58',.int .i64 x59',.int .i64 x60',.int .i64 x61',.int .i64 x62',.int .i64 x63',.bool b64',.int .i64 x65',.int .i64 x66',.slice s67'.1 (s67'.2.1) (s67'.2.2),.bool b68',.bool b69',.bool b70'],.agg #[.int .i64 0,.int .i64 0]] N39' fun v71' N71'=>
 tyS (asI .i64 v71') fun x72'=>
 cnd (x72' != 1) (
 A8_1 (some ⟨2*M.nb.size,0,none⟩) true N71' Q) (
 onS (N71'.boolAt (2*N4'.nb.size) 0) fun b73'=>
 onS (N71'.intAt .i64 (2*N4'.nb.size) (0+1)) fun x74'=>
 onS (N71'.boolAt (2*N4'.nb.size) (0+2)) fun b75'=>
 onS (N71'.boolAt (2*N4'.nb.size) (0+3)) fun b76'=>
 onS (N71'.intAt .i64 (2*N4'.nb.size) (0+4)) fun x77'=>
 onS (N71'.intAt .i64 (2*N4'.nb.size) (0+5)) fun x78'=>
 onS (N71'.intAt .i64 (2*N4'.nb.size) (0+6)) fun x79'=>
 onS (N71'.intAt .i64 (2*N4'.nb.size) (0+7)) fun x80'=>
 onS (N71'.intAt .i64 (2*N4'.nb.size) (0+8)) fun x81'=>
 onS (N71'.intAt .i64 (2*N4'.nb.size) (0+9)) fun x82'=>
 onS (N71'.intAt .i64 (2*N4'.nb.size) (0+10)) fun x83'=>
 onS (N71'.intAt .i64 (2*N4'.nb.size) (0+11)) fun x84'=>
 onS (N71'.intAt .i64 (2*N4'.nb.size) (0+12)) fun x85'=>
 onS (N71'.intAt .i64 (2*N4'.nb.size) (0+13)) fun x86'=>
 onS (N71'.intAt .i64 (2*N4'.nb.size) (0+14)) fun x87'=>
 onS (N71'.intAt .i64 (2*N4'.nb.size) (0+15)) fun x88'=>
 onS (N71'.intAt .i64 (2*N4'.nb.size) (0+16)) fun x89'=>
 onS (N71'.boolAt (2*N4'.nb.size) (0+17)) fun b90'=>
 onS (N71'.intAt .i64 (2*N4'.nb.size) (0+18)) fun x91'=>
 onS (N71'.intAt .i64 (2*N4'.nb.size) (0+19)) fun x92'=>
 onS (N71'.intAt .i64 (2*N4'.nb.size) (0+20)) fun x93'=>
 onS (N71'.intAt .i64 (2*N4'.nb.size) (0+21)) fun x94'=>
 onS (N71'.intAt .i64 (2*N4'.nb.size) (0+22)) fun x95'=>
 onS (N71'.boolAt (2*N4'.nb.size) (0+23)) fun b96'=>
 onS (N71'.intAt .i64 (2*N4'.nb.size) (0+24)) fun x97'=>
 onS (N71'.intAt .i64 (2*N4'.nb.size) (0+25)) fun x98'=>
 onS (N71'.slAt (2*N4'.nb.size) (0+26)) fun s99'=>
 onS (N71'.boolAt (2*N4'.nb.size) (0+27)) fun b100'=>
 onS (N71'.boolAt (2*N4'.nb.size) (0+28)) fun b101'=>
 onS (N71'.boolAt (2*N4'.nb.size) (0+29)) fun b102'=>
 Cn Try.prog 39 #[.agg #[.bool b73',.int .i64 x74',.bool b75',.bool b76',.int .i64 x77',.int .i64 x78',.int .i64 x79',.int .i64 x80',.int .i64 x81',.int .i64 x82',.int .i64 x83',.int .i64 x84',.int .i64 x85',.int .i64 x86',.int .i64 x87',.int .i64 x88',.int .i64 x89',.bool b90',.int .i64 x91',.int .i64 x92',.int .i64 x93',.int .i64 x94',.int .i64 x95',.bool b96',.int .i64 x97',.int .i64 x98',.slice s99'.1 (s99'.2.1) (s99'.2.2),.bool b100',.bool b101',.bool b102'],.agg #[.bool false,.int .i64 0,.bool false,.bool false,.int .i64 0,.int .i64 0,.int .i64 0,.int .i64 0,.int .i64 0,.int .i64 0,.int .i64 0,.int .i64 0,.int .i64 0,.int .i64 0,.int .i64 0,.int .i64 0,.int .i64 0,.bool false,.int .i64 0,.int .i64 0,.int .i64 0,.int .i64 0,.int .i64 0,.bool false,.int .i64 0,.int .i64 0,.slice none 0 0,.bool false,.bool false,.bool false]] N71' fun v103' N103'=>
 tyS (asB v103') fun b104'=>
 cnd (!b104') (
 A8_1 (some ⟨2*M.nb.size,0,none⟩) true N103' Q) (
 cnd (x37' != 1) (
 A8_1 (some ⟨2*M.nb.size,0,none⟩) true N103' Q) (
 onS (N103'.intAt .i64 (2*M.nb.size) 0) fun x105'=>
 onS (N103'.intAt .i64 (2*M.nb.size) (0+1)) fun x106'=>
 Cn Try.prog 41 #[] { N103' with floor:=N103'.nb.size } fun v107' N107'=>
 tyS (asA 30 v107') fun cs108'=>
 tyS (asB (cs108'.getD 0 undef)) fun b109'=>
 tyS (asI .i64 (cs108'.getD 1 undef)) fun x110'=>
 tyS (asB (cs108'.getD 2 undef)) fun b111'=>
 tyS (asB (cs108'.getD 3 undef)) fun b112'=>
 tyS (asI .i64 (cs108'.getD 4 undef)) fun x113'=>
 tyS (asI .i64 (cs108'.getD 5 undef)) fun x114'=>
 tyS (asI .i64 (cs108'.getD 6 undef)) fun x115'=>
 tyS (asI .i64 (cs108'.getD 7 undef)) fun x116'=>
 tyS (asI .i64 (cs108'.getD 8 undef)) fun x117'=>
 tyS (asI .i64 (cs108'.getD 9 undef)) fun x118'=>
 tyS (asI .i64 (cs108'.getD 10 undef)) fun x119'=>
 tyS (asI .i64 (cs108'.getD 11 undef)) fun x120'=>
 tyS (asI .i64 (cs108'.getD 12 undef)) fun x121'=>
 tyS (asI .i64 (cs108'.getD 13 undef)) fun x122'=>
 tyS (asI .i64 (cs108'.getD 14 undef)) fun x123'=>
 tyS (asI .i64 (cs108'.getD 15 undef)) fun x124'=>
 tyS (asI .i64 (cs108'.getD 16 undef)) fun x125'=>
 tyS (asB (cs108'.getD 17 undef)) fun b126'=>
 tyS (asI .i64 (cs108'.getD 18 undef)) fun x127'=>
 tyS (asI .i64 (cs108'.getD 19 undef)) fun x128'=>
 tyS (asI .i64 (cs108'.getD 20 undef)) fun x129'=>
 tyS (asI .i64 (cs108'.getD 21 undef)) fun x130'=>
 tyS (asI .i64 (cs108'.getD 22 undef)) fun x131'=>
 tyS (asB (cs108'.getD 23 undef)) fun b132'=>
 tyS (asI .i64 (cs108'.getD 24 undef)) fun x133'=>
 tyS (asI .i64 (cs108'.getD 25 undef)) fun x134'=>
 tyS (asS (cs108'.getD 26 undef)) fun s135'=>
 tyS (asB (cs108'.getD 27 undef)) fun b136'=>
 tyS (asB (cs108'.getD 28 undef)) fun b137'=>
 tyS (asB (cs108'.getD 29 undef)) fun b138'=>
 Cn Try.prog 24 #[.pointer (some ⟨2*(M38'.nb.size+0),0,none⟩),.agg #[.bool b109',.int .i64 x110',.bool b111',.bool b112',.int .i64 x113',.int .i64 x114',.int .i64 x115',.int .i64 x116',.int .i64 x117',.int .i64 x118',.int .i64 x119',.int .i64 x120',.int .i64 x121',.int .i64 x122',.int .i64 x123',.int .i64 x124',.int .i64 x125',.bool b126',.int .i64 x127',.int .i64 x128',.int .i64 x129',.int .i64 x130',.int .i64 x131',.bool b132',.int .i64 x133',.int .i64 x134',.slice s135'.1 (s135'.2.1) (s135'.2.2),.bool b136',.bool b137',.bool b138'],.agg #[.int .i64 x105',.int .i64 x106']] (({ N107' with floor:=N103'.floor }:Mem).upd (M38'.nb.size+0) (.cells #[.slice none 0 0,.int .i64 0,.bool false] 73)) fun v139' N139'=>
 tyS (asI .i64 v139') fun x140'=>
 A8_1 (some ⟨2*M.nb.size,0,none⟩) (x140' != 1) N139' Q)))):
 Cn Try.prog 8 #[] M Q:=
 Cn.mk (cuts:=K8) (sp:=Z8) 900 b8 rfl rfl H fun G=>by kernel_rfl
theorem w8_1 {x1:Option Addr} {x39:Bool} {M:Mem} {Q:Value→Mem→Prop} (H:
 cnd x39 (
 Q (.bool false) M) (
 A8_2 x1 (some ⟨2*M.nb.size,0,none⟩) 10 10 (some ⟨2*((((((((((M.new (.cells #[.int .i64 0,.int .i64 0,.int .i64 16,.int .i64 16,.int .i64 15,.int .i64 16,.int .i64 16,.int .i64 258,.int .i64 256,.int .i64 256,.int .i64 258,.int .i64 16,.int .i64 17,.int .i64 16,.int .i64 14,.int .i64 16,.int .i64 (-16),.int .i64 16,.int .i64 4611686018427387904,.int .i64 16] 23)).new (.cells #[.int .u8 48] 5)).new (.cells #[.int .u8 48,.int .u8 32] 5)).new (.cells #[.int .u8 255,.int .u8 252] 5)).new (.cells #[.int .u8 48,.int .u8 33] 5)).new (.cells #[.int .u8 48,.int .u8 34] 5)).new (.cells #[.int .u8 48,.int .u8 32,.int .u8 0] 5)).new (.cells #[.int .u8 241,.int .u8 224] 5)).new (.cells #[.int .u8 240,.int .u8 0] 5)).new (.cells #[.int .u8 242,.int .u8 0] 5)).nb.size,0,none⟩) 10 10 0 (((((((((((M.new (.cells #[.int .i64 0,.int .i64 0,.int .i64 16,.int .i64 16,.int .i64 15,.int .i64 16,.int .i64 16,.int .i64 258,.int .i64 256,.int .i64 256,.int .i64 258,.int .i64 16,.int .i64 17,.int .i64 16,.int .i64 14,.int .i64 16,.int .i64 (-16),.int .i64 16,.int .i64 4611686018427387904,.int .i64 16] 23)).new (.cells #[.int .u8 48] 5)).new (.cells #[.int .u8 48,.int .u8 32] 5)).new (.cells #[.int .u8 255,.int .u8 252] 5)).new (.cells #[.int .u8 48,.int .u8 33] 5)).new (.cells #[.int .u8 48,.int .u8 34] 5)).new (.cells #[.int .u8 48,.int .u8 32,.int .u8 0] 5)).new (.cells #[.int .u8 241,.int .u8 224] 5)).new (.cells #[.int .u8 240,.int .u8 0] 5)).new (.cells #[.int .u8 242,.int .u8 0] 5)).new (.cells #[.slice none 0 0,.slice (some ⟨2*(M.new (.cells #[.int .i64 0,.int .i64 0,.int .i64 16,.int .i64 16,.int .i64 15,.int .i64 16,.int .i64 16,.int .i64 258,.int .i64 256,.int .i64 256,.int .i64 258,.int .i64 16,.int .i64 17,.int .i64 16,.int .i64 14,.int .i64 16,.int .i64 (-16),.int .i64 16,.int .i64 4611686018427387904,.int .i64 16] 23)).nb.size,0,none⟩) 1 1,.slice (some ⟨2*((M.new (.cells #[.int .i64 0,.int .i64 0,.int .i64 16,.int .i64 16,.int .i64 15,.int .i64 16,.int .i64 16,.int .i64 258,.int .i64 256,.int .i64 256,.int .i64 258,.int .i64 16,.int .i64 17,.int .i64 16,.int .i64 14,.int .i64 16,.int .i64 (-16),.int .i64 16,.int .i64 4611686018427387904,.int .i64 16] 23)).new (.cells #[.int .u8 48] 5)).nb.size,0,none⟩) 2 2,.slice (some ⟨2*(((M.new (.cells #[.int .i64 0,.int .i64 0,.int .i64 16,.int .i64 16,.int .i64 15,.int .i64 16,.int .i64 16,.int .i64 258,.int .i64 256,.int .i64 256,.int .i64 258,.int .i64 16,.int .i64 17,.int .i64 16,.int .i64 14,.int .i64 16,.int .i64 (-16),.int .i64 16,.int .i64 4611686018427387904,.int .i64 16] 23)).new (.cells #[.int .u8 48] 5)).new (.cells #[.int .u8 48,.int .u8 32] 5)).nb.size,0,none⟩) 2 2,.slice (some ⟨2*((((M.new (.cells #[.int .i64 0,.int .i64 0,.int .i64 16,.int .i64 16,.int .i64 15,.int .i64 16,.int .i64 16,.int .i64 258,.int .i64 256,.int .i64 256,.int .i64 258,.int .i64 16,.int .i64 17,.int .i64 16,.int .i64 14,.int .i64 16,.int .i64 (-16),.int .i64 16,.int .i64 4611686018427387904,.int .i64 16] 23)).new (.cells #[.int .u8 48] 5)).new (.cells #[.int .u8 48,.int .u8 32] 5)).new (.cells #[.int .u8 255,.int .u8 252] 5)).nb.size,0,none⟩) 2 2,.slice (some ⟨2*(((((M.new (.cells #[.int .i64 0,.int .i64 0,.int .i64 16,.int .i64 16,.int .i64 15,.int .i64 16,.int .i64 16,.int .i64 258,.int .i64 256,.int .i64 256,.int .i64 258,.int .i64 16,.int .i64 17,.int .i64 16,.int .i64 14,.int .i64 16,.int .i64 (-16),.int .i64 16,.int .i64 4611686018427387904,.int .i64 16] 23)).new (.cells #[.int .u8 48] 5)).new (.cells #[.int .u8 48,.int .u8 32] 5)).new (.cells #[.int .u8 255,.int .u8 252] 5)).new (.cells #[.int .u8 48,.int .u8 33] 5)).nb.size,0,none⟩) 2 2,.slice (some ⟨2*((((((M.new (.cells #[.int .i64 0,.int .i64 0,.int .i64 16,.int .i64 16,.int .i64 15,.int .i64 16,.int .i64 16,.int .i64 258,.int .i64 256,.int .i64 256,.int .i64 258,.int .i64 16,.int .i64 17,.int .i64 16,.int .i64 14,.int .i64 16,.int .i64 (-16),.int .i64 16,.int .i64 4611686018427387904,.int .i64 16] 23)).new (.cells #[.int .u8 48] 5)).new (.cells #[.int .u8 48,.int .u8 32] 5)).new (.cells #[.int .u8 255,.int .u8 252] 5)).new (.cells #[.int .u8 48,.int .u8 33] 5)).new (.cells #[.int .u8 48,.int .u8 34] 5)).nb.size,0,none⟩) 3 3,.slice (some ⟨2*(((((((M.new (.cells #[.int .i64 0,.int .i64 0,.int .i64 16,.int .i64 16,.int .i64 15,.int .i64 16,.int .i64 16,.int .i64 258,.int .i64 256,.int .i64 256,.int .i64 258,.int .i64 16,.int .i64 17,.int .i64 16,.int .i64 14,.int .i64 16,.int .i64 (-16),.int .i64 16,.int .i64 4611686018427387904,.int .i64 16] 23)).new (.cells #[.int .u8 48] 5)).new (.cells #[.int .u8 48,.int .u8 32] 5)).new (.cells #[.int .u8 255,.int .u8 252] 5)).new (.cells #[.int .u8 48,.int .u8 33] 5)).new (.cells #[.int .u8 48,.int .u8 34] 5)).new (.cells #[.int .u8 48,.int .u8 32,.int .u8 0] 5)).nb.size,0,none⟩) 2 2,.slice (some ⟨2*((((((((M.new (.cells #[.int .i64 0,.int .i64 0,.int .i64 16,.int .i64 16,.int .i64 15,.int .i64 16,.int .i64 16,.int .i64 258,.int .i64 256,.int .i64 256,.int .i64 258,.int .i64 16,.int .i64 17,.int .i64 16,.int .i64 14,.int .i64 16,.int .i64 (-16),.int .i64 16,.int .i64 4611686018427387904,.int .i64 16] 23)).new (.cells #[.int .u8 48] 5)).new (.cells #[.int .u8 48,.int .u8 32] 5)).new (.cells #[.int .u8 255,.int .u8 252] 5)).new (.cells #[.int .u8 48,.int .u8 33] 5)).new (.cells #[.int .u8 48,.int .u8 34] 5)).new (.cells #[.int .u8 48,.int .u8 32,.int .u8 0] 5)).new (.cells #[.int .u8 241,.int .u8 224] 5)).nb.size,0,none⟩) 2 2,.slice (some ⟨2*(((((((((M.new (.cells #[.int .i64 0,.int .i64 0,.int .i64 16,.int .i64 16,.int .i64 15,.int .i64 16,.int .i64 16,.int .i64 258,.int .i64 256,.int .i64 256,.int .i64 258,.int .i64 16,.int .i64 17,.int .i64 16,.int .i64 14,.int .i64 16,.int .i64 (-16),.int .i64 16,.int .i64 4611686018427387904,.int .i64 16] 23)).new (.cells #[.int .u8 48] 5)).new (.cells #[.int .u8 48,.int .u8 32] 5)).new (.cells #[.int .u8 255,.int .u8 252] 5)).new (.cells #[.int .u8 48,.int .u8 33] 5)).new (.cells #[.int .u8 48,.int .u8 34] 5)).new (.cells #[.int .u8 48,.int .u8 32,.int .u8 0] 5)).new (.cells #[.int .u8 241,.int .u8 224] 5)).new (.cells #[.int .u8 240,.int .u8 0] 5)).nb.size,0,none⟩) 2 2] 24)) Q)):
 A8_1 x1 x39 M Q:=
 LvP.mk (cuts:=K8) (sp:=Z8) 900 H fun G=>by kernel_rfl
theorem w8_2 {x1 Ax4:Option Addr} {lx4 cx4:Nat} {Ax5:Option Addr} {lx5 cx5:Nat} {x6:Int} {M:Mem} {Q:Value→Mem→Prop} (H:
 cnd (decide (x6<((lx4:Int)))) (
 ixS (idxA Ax4 lx4 2 x6) fun a141'=>
 onS (M.intAt .i64 a141'.block a141'.off) fun x142'=>
 onS (M.intAt .i64 a141'.block (a141'.off+1)) fun x143'=>
 ixS (idxA Ax5 lx5 1 x6) fun a144'=>
 onS (M.slAt a144'.block a144'.off) fun s145'=>
 Cn Try.prog 3 #[.agg #[.int .i64 x142',.int .i64 x143'],.slice s145'.1 (s145'.2.1) (s145'.2.2)] M fun v146' N146'=>
 tyS (asB v146') fun b147'=>
 cnd (!b147') (
 A8_3 x1 Ax4 lx4 cx4 Ax5 lx5 cx5 x6 true N146' Q) (
 ixS (idxA Ax4 lx4 2 x6) fun a148'=>
 onS (N146'.intAt .i64 a148'.block a148'.off) fun x149'=>
 onS (N146'.intAt .i64 a148'.block (a148'.off+1)) fun x150'=>
 Cn Try.prog 41 #[] { N146' with floor:=N146'.nb.size } fun v151' N151'=>
 tyS (asA 30 v151') fun cs152'=>
 tyS (asB (cs152'.getD 0 undef)) fun b153'=>
 tyS (asI .i64 (cs152'.getD 1 undef)) fun x154'=>
 tyS (asB (cs152'.getD 2 undef)) fun b155'=>
 tyS (asB (cs152'.getD 3 undef)) fun b156'=>
 tyS (asI .i64 (cs152'.getD 4 undef)) fun x157'=>
 tyS (asI .i64 (cs152'.getD 5 undef)) fun x158'=>
 tyS (asI .i64 (cs152'.getD 6 undef)) fun x159'=>
 tyS (asI .i64 (cs152'.getD 7 undef)) fun x160'=>
 tyS (asI .i64 (cs152'.getD 8 undef)) fun x161'=>
 tyS (asI .i64 (cs152'.getD 9 undef)) fun x162'=>
 tyS (asI .i64 (cs152'.getD 10 undef)) fun x163'=>
 tyS (asI .i64 (cs152'.getD 11 undef)) fun x164'=>
 tyS (asI .i64 (cs152'.getD 12 undef)) fun x165'=>
 tyS (asI .i64 (cs152'.getD 13 undef)) fun x166'=>
 tyS (asI .i64 (cs152'.getD 14 undef)) fun x167'=>
 tyS (asI .i64 (cs152'.getD 15 undef)) fun x168'=>
 tyS (asI .i64 (cs152'.getD 16 undef)) fun x169'=>
 tyS (asB (cs152'.getD 17 undef)) fun b170'=>
 tyS (asI .i64 (cs152'.getD 18 undef)) fun x171'=>
 tyS (asI .i64 (cs152'.getD 19 undef)) fun x172'=>
 tyS (asI .i64 (cs152'.getD 20 undef)) fun x173'=>
 tyS (asI .i64 (cs152'.getD 21 undef)) fun x174'=>
 tyS (asI .i64 (cs152'.getD 22 undef)) fun x175'=>
 tyS (asB (cs152'.getD 23 undef)) fun b176'=>
 tyS (asI .i64 (cs152'.getD 24 undef)) fun x177'=>
 tyS (asI .i64 (cs152'.getD 25 undef)) fun x178'=>
 tyS (asS (cs152'.getD 26 undef)) fun s179'=>
 tyS (asB (cs152'.getD 27 undef)) fun b180'=>
 tyS (asB (cs152'.getD 28 undef)) fun b181'=>
 tyS (asB (cs152'.getD 29 undef)) fun b182'=>
 Cn Try.prog 4 #[.agg #[.bool b153',.int .i64 x154',.bool b155',.bool b156',.int .i64 x157',.int .i64 x158',.int .i64 x159',.int .i64 x160',.int .i64 x161',.int .i64 x162',.int .i64 x163',.int .i64 x164',.int .i64 x165',.int .i64 x166',.int .i64 x167',.int .i64 x168',.int .i64 x169',.bool b170',.int .i64 x171',.int .i64 x172',.int .i64 x173',.int .i64 x174',.int .i64 x175',.bool b176',.int .i64 x177',.int .i64 x178',.slice s179'.1 (s179'.2.1) (s179'.2.2),.bool b180',.bool b181',.bool b182'],.agg #[.int .i64 x149',.int .i64 x150'],.int .i64 0] ({ N151' with floor:=N146'.floor }:Mem) fun v183' N183'=>
 tyS (asB v183') fun b184'=>
 cnd (!b184') (
 A8_3 x1 Ax4 lx4 cx4 Ax5 lx5 cx5 x6 true N183' Q) (
 ixS (idxA Ax4 lx4 2 x6) fun a185'=>
 onS (N183'.intAt .i64 a185'.block a185'.off) fun x186'=>
 onS (N183'.intAt .i64 a185'.block (a185'.off+1)) fun x187'=>
 Cn Try.prog 5 #[.slice (some ⟨2*N183'.nb.size,0,none⟩) 4 4,.agg #[.int .i64 x186',.int .i64 x187'],.int .i64 0] (N183'.new (.cells #[.int .u8 127,.int .u8 224,.int .u8 0,.int .u8 0] 5)) fun v188' N188'=>
 tyS (asB v188') fun b189'=>
 A8_3 x1 Ax4 lx4 cx4 Ax5 lx5 cx5 x6 (!b189') N188' Q))) (
 A8_4 x1 0 M Q)):
 A8_2 x1 Ax4 lx4 cx4 Ax5 lx5 cx5 x6 M Q:=
 LvP.mk (cuts:=K8) (sp:=Z8) 900 H fun G=>by kernel_rfl
theorem w8_3 {x1 Ax4:Option Addr} {lx4 cx4:Nat} {Ax5:Option Addr} {lx5 cx5:Nat} {x6:Int} {x94:Bool} {M:Mem} {Q:Value→Mem→Prop} (H:
 cnd x94 (
 Q (.bool false) M) (
 A8_2 x1 Ax4 lx4 cx4 Ax5 lx5 cx5 (IntKind.i64.wrap (x6+1)) M Q)):
 A8_3 x1 Ax4 lx4 cx4 Ax5 lx5 cx5 x6 x94 M Q:=
 LvP.mk (cuts:=K8) (sp:=Z8) 900 H fun G=>by kernel_rfl
theorem w8_4 {x1:Option Addr} {x7:Int} {M:Mem} {Q:Value→Mem→Prop} (H:
 cnd (decide (x7<40)) (
 Cn Try.prog 42 #[.int .i64 x7] M fun v190' N190'=>
 tyS (asA 30 v190') fun cs191'=>
 tyS (asB (cs191'.getD 0 undef)) fun b192'=>
 tyS (asI .i64 (cs191'.getD 1 undef)) fun x193'=>
 tyS (asB (cs191'.getD 2 undef)) fun b194'=>
 tyS (asB (cs191'.getD 3 undef)) fun b195'=>
 tyS (asI .i64 (cs191'.getD 4 undef)) fun x196'=>
 tyS (asI .i64 (cs191'.getD 5 undef)) fun x197'=>
 tyS (asI .i64 (cs191'.getD 6 undef)) fun x198'=>
 tyS (asI .i64 (cs191'.getD 7 undef)) fun x199'=>
 tyS (asI .i64 (cs191'.getD 8 undef)) fun x200'=>
 tyS (asI .i64 (cs191'.getD 9 undef)) fun x201'=>
 tyS (asI .i64 (cs191'.getD 10 undef)) fun x202'=>
 tyS (asI .i64 (cs191'.getD 11 undef)) fun x203'=>
 tyS (asI .i64 (cs191'.getD 12 undef)) fun x204'=>
 tyS (asI .i64 (cs191'.getD 13 undef)) fun x205'=>
 tyS (asI .i64 (cs191'.getD 14 undef)) fun x206'=>
 tyS (asI .i64 (cs191'.getD 15 undef)) fun x207'=>
 tyS (asI .i64 (cs191'.getD 16 undef)) fun x208'=>
 tyS (asB (cs191'.getD 17 undef)) fun b209'=>
 tyS (asI .i64 (cs191'.getD 18 undef)) fun x210'=>
 tyS (asI .i64 (cs191'.getD 19 undef)) fun x211'=>
 tyS (asI .i64 (cs191'.getD 20 undef)) fun x212'=>
 tyS (asI .i64 (cs191'.getD 21 undef)) fun x213'=>
 tyS (asI .i64 (cs191'.getD 22 undef)) fun x214'=>
 tyS (asB (cs191'.getD 23 undef)) fun b215'=>
 tyS (asI .i64 (cs191'.getD 24 undef)) fun x216'=>
 tyS (asI .i64 (cs191'.getD 25 undef)) fun x217'=>
 tyS (asS (cs191'.getD 26 undef)) fun s218'=>
 tyS (asB (cs191'.getD 27 undef)) fun b219'=>
 tyS (asB (cs191'.getD 28 undef)) fun b220'=>
 tyS (asB (cs191'.getD 29 undef)) fun b221'=>
 stP (some 30) #[.bool b192',.int .i64 x193',.bool b194',.bool b195',.int .i64 x196',.int .i64 x197',.int .i64 x198',.int .i64 x199',.int .i64 x200',.int .i64 x201',.int .i64 x202',.int .i64 x203',.int .i64 x204',.int .i64 x205',.int .i64 x206',.int .i64 x207',.int .i64 x208',.bool b209',.int .i64 x210',.int .i64 x211',.int .i64 x212',.int .i64 x213',.int .i64 x214',.bool b215',.int .i64 x216',.int .i64 x217',.slice s218'.1 (s218'.2.1) (s218'.2.2),.bool b219',.bool b220',.bool b221'] (N190'.new (.cells #[.bool false,.int .i64 0,.bool false,.bool false,.int .i64 0,.int .i64 0,.int .i64 0,.int .i64 0,.int .i64 0,.int .i64 0,.int .i64 0,.int .i64 0,.int .i64 0,.int .i64 0,.int .i64 0,.int .i64 0,.int .i64 0,.bool false,.int .i64 0,.int .i64 0,.int .i64 0,.int .i64 0,.int .i64 0,.bool false,.int .i64 0,.int .i64 0,.slice none 0 0,.bool false,.bool false,.bool false] 41)) (2*N190'.nb.size) 0 fun M222'=>
 onS (M222'.boolAt (2*N190'.nb.size) 0) fun b223'=>
 onS (M222'.intAt .i64 (2*N190'.nb.size) (0+1)) fun x224'=>
 onS (M222'.boolAt (2*N190'.nb.size) (0+2)) fun b225'=>
 onS (M222'.boolAt (2*N190'.nb.size) (0+3)) fun b226'=>
 onS (M222'.intAt .i64 (2*N190'.nb.size) (0+4)) fun x227'=>
 onS (M222'.intAt .i64 (2*N190'.nb.size) (0+5)) fun x228'=>
 onS (M222'.intAt .i64 (2*N190'.nb.size) (0+6)) fun x229'=>
 onS (M222'.intAt .i64 (2*N190'.nb.size) (0+7)) fun x230'=>
 onS (M222'.intAt .i64 (2*N190'.nb.size) (0+8)) fun x231'=>
 onS (M222'.intAt .i64 (2*N190'.nb.size) (0+9)) fun x232'=>
 onS (M222'.intAt .i64 (2*N190'.nb.size) (0+10)) fun x233'=>
 onS (M222'.intAt .i64 (2*N190'.nb.size) (0+11)) fun x234'=>
 onS (M222'.intAt .i64 (2*N190'.nb.size) (0+12)) fun x235'=>
 onS (M222'.intAt .i64 (2*N190'.nb.size) (0+13)) fun x236'=>
 onS (M222'.intAt .i64 (2*N190'.nb.size) (0+14)) fun x237'=>
 onS (M222'.intAt .i64 (2*N190'.nb.size) (0+15)) fun x238'=>
 onS (M222'.intAt .i64 (2*N190'.nb.size) (0+16)) fun x239'=>
 onS (M222'.boolAt (2*N190'.nb.size) (0+17)) fun b240'=>
 onS (M222'.intAt .i64 (2*N190'.nb.size) (0+18)) fun x241'=>
 onS (M222'.intAt .i64 (2*N190'.nb.size) (0+19)) fun x242'=>
 onS (M222'.intAt .i64 (2*N190'.nb.size) (0+20)) fun x243'=>
 onS (M222'.intAt .i64 (2*N190'.nb.size) (0+21)) fun x244'=>
 onS (M222'.intAt .i64 (2*N190'.nb.size) (0+22)) fun x245'=>
 onS (M222'.boolAt (2*N190'.nb.size) (0+23)) fun b246'=>
 onS (M222'.intAt .i64 (2*N190'.nb.size) (0+24)) fun x247'=>
 onS (M222'.intAt .i64 (2*N190'.nb.size) (0+25)) fun x248'=>
 onS (M222'.slAt (2*N190'.nb.size) (0+26)) fun s249'=>
 onS (M222'.boolAt (2*N190'.nb.size) (0+27)) fun b250'=>
 onS (M222'.boolAt (2*N190'.nb.size) (0+28)) fun b251'=>
 onS (M222'.boolAt (2*N190'.nb.size) (0+29)) fun b252'=>
 adS x1 fun a253'=>
 onS (M222'.intAt .i64 a253'.block a253'.off) fun x254'=>
 onS (M222'.intAt .i64 a253'.block (a253'.off+1)) fun x255'=>
 Cn Try.prog 4 #[.agg #[.bool b223',.int .i64 x224',.bool b225',.bool b226',.int .i64 x227',.int .i64 x228',.int .i64 x229',.int .i64 x230',.int .i64 x231',.int .i64 x232',.int .i64 x233',.int .i64 x234',.int .i64 x235',.int .i64 x236',.int .i64 x237',.int .i64 x238',.int .i64 x239',.bool b240',.int .i64 x241',.int .i64 x242',.int .i64 x243',.int .i64 x244',.int .i64 x245',.bool b246',.int .i64 x247',.int .i64 x248',.slice s249'.1 (s249'.2.1) (s249'.2.2),.bool b250',.bool b251',.bool b252'],.agg #[.int .i64 x254',.int .i64 x255'],.int .i64 x7] M222' fun v256' N256'=>
 tyS (asB v256') fun b257'=>
 cnd (!b257') (
 A8_5 x1 x7 true N256' Q) (
 onS (N256'.boolAt (2*N190'.nb.size) 0) fun b258'=>
 onS (N256'.intAt .i64 (2*N190'.nb.size) (0+1)) fun x259'=>
 onS (N256'.boolAt (2*N190'.nb.size) (0+2)) fun b260'=>
 onS (N256'.boolAt (2*N190'.nb.size) (0+3)) fun b261'=>
 onS (N256'.intAt .i64 (2*N190'.nb.size) (0+4)) fun x262'=>
 onS (N256'.intAt .i64 (2*N190'.nb.size) (0+5)) fun x263'=>
 onS (N256'.intAt .i64 (2*N190'.nb.size) (0+6)) fun x264'=>
 onS (N256'.intAt .i64 (2*N190'.nb.size) (0+7)) fun x265'=>
 onS (N256'.intAt .i64 (2*N190'.nb.size) (0+8)) fun x266'=>
 onS (N256'.intAt .i64 (2*N190'.nb.size) (0+9)) fun x267'=>
 onS (N256'.intAt .i64 (2*N190'.nb.size) (0+10)) fun x268'=>
 onS (N256'.intAt .i64 (2*N190'.nb.size) (0+11)) fun x269'=>
 onS (N256'.intAt .i64 (2*N190'.nb.size) (0+12)) fun x270'=>
 onS (N256'.intAt .i64 (2*N190'.nb.size) (0+13)) fun x271'=>
 onS (N256'.intAt .i64 (2*N190'.nb.size) (0+14)) fun x272'=>
 onS (N256'.intAt .i64 (2*N190'.nb.size) (0+15)) fun x273'=>
 onS (N256'.intAt .i64 (2*N190'.nb.size) (0+16)) fun x274'=>
 onS (N256'.boolAt (2*N190'.nb.size) (0+17)) fun b275'=>
 onS (N256'.intAt .i64 (2*N190'.nb.size) (0+18)) fun x276'=>
 onS (N256'.intAt .i64 (2*N190'.nb.size) (0+19)) fun x277'=>
 onS (N256'.intAt .i64 (2*N190'.nb.size) (0+20)) fun x278'=>
 onS (N256'.intAt .i64 (2*N190'.nb.size) (0+21)) fun x279'=>
 onS (N256'.intAt .i64 (2*N190'.nb.size) (0+22)) fun x280'=>
 onS (N256'.boolAt (2*N190'.nb.size) (0+23)) fun b281'=>
 onS (N256'.intAt .i64 (2*N190'.nb.size) (0+24)) fun x282'=>
 onS (N256'.intAt .i64 (2*N190'.nb.size) (0+25)) fun x283'=>
 onS (N256'.slAt (2*N190'.nb.size) (0+26)) fun s284'=>
 onS (N256'.boolAt (2*N190'.nb.size) (0+27)) fun b285'=>
 onS (N256'.boolAt (2*N190'.nb.size) (0+28)) fun b286'=>
 onS (N256'.boolAt (2*N190'.nb.size) (0+29)) fun b287'=>
 Cn Try.prog 4 #[.agg #[.bool b258',.int .i64 x259',.bool b260',.bool b261',.int .i64 x262',.int .i64 x263',.int .i64 x264',.int .i64 x265',.int .i64 x266',.int .i64 x267',.int .i64 x268',.int .i64 x269',.int .i64 x270',.int .i64 x271',.int .i64 x272',.int .i64 x273',.int .i64 x274',.bool b275',.int .i64 x276',.int .i64 x277',.int .i64 x278',.int .i64 x279',.int .i64 x280',.bool b281',.int .i64 x282',.int .i64 x283',.slice s284'.1 (s284'.2.1) (s284'.2.2),.bool b285',.bool b286',.bool b287'],.agg #[.int .i64 256,.int .i64 256],.int .i64 x7] N256' fun v288' N288'=>
 tyS (asB v288') fun b289'=>
 A8_5 x1 x7 (!b289') N288' Q)) (
 Cn Try.prog 19 #[] M fun v290' N290'=>
 tyS (asP v290') fun p291'=>
 Cn Try.prog 22 #[.pointer p291',.int .u32 3,.int .i64 3] N290' fun v292' N292'=>
 tyS (asI .i64 v292') fun x293'=>
 Cn Try.prog 22 #[.pointer p291',.int .u32 1,.int .i64 8] N292' fun v294' N294'=>
 tyS (asI .i64 v294') fun x295'=>
 Cn Try.prog 22 #[.pointer p291',.int .u32 7,.int .i64 8] N294' fun v296' N296'=>
 tyS (asI .i64 v296') fun x297'=>
 Cn Try.prog 22 #[.pointer p291',.int .u32 1,.int .i64 1] N296' fun v298' N298'=>
 tyS (asI .i64 v298') fun x299'=>
 Cn Try.prog 43 #[.pointer p291',.int .i32 0,.int .i64 5] N298' fun v300' N300'=>
 tyS (asI .i64 v300') fun x301'=>
 Cn Try.prog 22 #[.pointer p291',.int .u32 0,.int .i64 30] N300' fun v302' N302'=>
 tyS (asI .i64 v302') fun x303'=>
 adS x1 fun a304'=>
 onS ((N302'.res 1).intAt .i64 a304'.block a304'.off) fun x305'=>
 onS ((N302'.res 1).intAt .i64 a304'.block (a304'.off+1)) fun x306'=>
 Cn Try.prog 28 #[.pointer p291'] { (N302'.res 1) with floor:=(N302'.res 1).nb.size } fun v307' N307'=>
 tyS (asS v307') fun s308'=>
 Cn Try.prog 31 #[.slice s308'.1 (s308'.2.1) (s308'.2.2)] { ({ N307' with floor:=(N302'.res 1).floor }:Mem) with floor:=({ N307' with floor:=(N302'.res 1).floor }:Mem).nb.size } fun v309' N309'=>
 tyS (asP v309') fun p310'=>
 Cn Try.prog 35 #[.pointer p310',.agg #[.int .i64 x305',.int .i64 x306']] ({ N309' with floor:=({ N307' with floor:=(N302'.res 1).floor }:Mem).floor }:Mem) fun v311' N311'=>
 tyS (asU 2 v311') fun cs312'=>
 tyS (asA 30 (cs312'.getD 0 undef)) fun cs313'=>
 tyS (asB (cs313'.getD 0 undef)) fun b314'=>
 tyS (asI .i64 (cs313'.getD 1 undef)) fun x315'=>
 tyS (asB (cs313'.getD 2 undef)) fun b316'=>
 tyS (asB (cs313'.getD 3 undef)) fun b317'=>
 tyS (asI .i64 (cs313'.getD 4 undef)) fun x318'=>
 tyS (asI .i64 (cs313'.getD 5 undef)) fun x319'=>
 tyS (asI .i64 (cs313'.getD 6 undef)) fun x320'=>
 tyS (asI .i64 (cs313'.getD 7 undef)) fun x321'=>
 tyS (asI .i64 (cs313'.getD 8 undef)) fun x322'=>
 tyS (asI .i64 (cs313'.getD 9 undef)) fun x323'=>
 tyS (asI .i64 (cs313'.getD 10 undef)) fun x324'=>
 tyS (asI .i64 (cs313'.getD 11 undef)) fun x325'=>
 tyS (asI .i64 (cs313'.getD 12 undef)) fun x326'=>
 tyS (asI .i64 (cs313'.getD 13 undef)) fun x327'=>
 tyS (asI .i64 (cs313'.getD 14 undef)) fun x328'=>
 tyS (asI .i64 (cs313'.getD 15 undef)) fun x329'=>
 tyS (asI .i64 (cs313'.getD 16 undef)) fun x330'=>
 tyS (asB (cs313'.getD 17 undef)) fun b331'=>
 tyS (asI .i64 (cs313'.getD 18 undef)) fun x332'=>
 tyS (asI .i64 (cs313'.getD 19 undef)) fun x333'=>
 tyS (asI .i64 (cs313'.getD 20 undef)) fun x334'=>
 tyS (asI .i64 (cs313'.getD 21 undef)) fun x335'=>
 tyS (asI .i64 (cs313'.getD 22 undef)) fun x336'=>
 tyS (asB (cs313'.getD 23 undef)) fun b337'=>
 tyS (asI .i64 (cs313'.getD 24 undef)) fun x338'=>
 tyS (asI .i64 (cs313'.getD 25 undef)) fun x339'=>
 tyS (asS (cs313'.getD 26 undef)) fun s340'=>
 tyS (asB (cs313'.getD 27 undef)) fun b341'=>
 tyS (asB (cs313'.getD 28 undef)) fun b342'=>
 tyS (asB (cs313'.getD 29 undef)) fun b343'=>
 tyS (asI .i64 (cs312'.getD 1 undef)) fun x344'=>
 stP (some 30) #[.bool b314',.int .i64 x315',.bool b316',.bool b317',.int .i64 x318',.int .i64 x319',.int .i64 x320',.int .i64 x321',.int .i64 x322',.int .i64 x323',.int .i64 x324',.int .i64 x325',.int .i64 x326',.int .i64 x327',.int .i64 x328',.int .i64 x329',.int .i64 x330',.bool b331',.int .i64 x332',.int .i64 x333',.int .i64 x334',.int .i64 x335',.int .i64 x336',.bool b337',.int .i64 x338',.int .i64 x339',.slice s340'.1 (s340'.2.1) (s340'.2.2),.bool b341',.bool b342',.bool b343'] (N311'.upd (N302'.nb.size+0) (.cells #[.bool false,.int .i64 0,.bool false,.bool false,.int .i64 0,.int .i64 0,.int .i64 0,.int .i64 0,.int .i64 0,.int .i64 0,.int .i64 0,.int .i64 0,.int .i64 0,.int .i64 0,.int .i64 0,.int .i64 0,.int .i64 0,.bool false,.int .i64 0,.int .i64 0,.int .i64 0,.int .i64 0,.int .i64 0,.bool false,.int .i64 0,.int .i64 0,.slice none 0 0,.bool false,.bool false,.bool false] 41)) (2*(N302'.nb.size+0)) 0 fun M345'=>
 cnd (x344' != 4) (
 A8_6 x1 true M345' Q) (
 adS x1 fun a346'=>
 onS (M345'.intAt .i64 a346'.block a346'.off) fun x347'=>
 onS (M345'.intAt .i64 a346'.block (a346'.off+1)) fun x348'=>
 Cn Try.prog 28 #[.pointer p291'] { M345' with floor:=M345'.nb.size } fun v349' N349'=>
 tyS (asS v349') fun s350'=>
 Cn Try.prog 5 #[.slice s350'.1 (s350'.2.1) (s350'.2.2),.agg #[.int .i64 x347',.int .i64 x348'],.int .i64 0] ({ N349' with floor:=M345'.floor }:Mem) fun v351' N351'=>
 tyS (asB v351') fun b352'=>
 A8_6 x1 (!b352') N351' Q))):
 A8_4 x1 x7 M Q:=
 LvP.mk (cuts:=K8) (sp:=Z8) 900 H fun G=>by kernel_rfl
theorem w8_5 {x1:Option Addr} {x7:Int} {x112:Bool} {M:Mem} {Q:Value→Mem→Prop} (H:
 cnd x112 (
 Q (.bool false) M) (
 A8_4 x1 (IntKind.i64.wrap (x7+1)) M Q)):
 A8_5 x1 x7 x112 M Q:=
 LvP.mk (cuts:=K8) (sp:=Z8) 900 H fun G=>by kernel_rfl
theorem w8_6 {x1:Option Addr} {x142:Bool} {M:Mem} {Q:Value→Mem→Prop} (H:
 cnd x142 (
 Q (.bool false) M) (
 Cn Try.prog 17 #[] M fun v353' N353'=>
 tyS (asB v353') fun b354'=>
 cnd b354' (
 adS x1 fun a355'=>
 onS (N353'.intAt .i64 a355'.block a355'.off) fun x356'=>
 onS (N353'.intAt .i64 a355'.block (a355'.off+1)) fun x357'=>
 Cn Try.prog 41 #[] { N353' with floor:=N353'.nb.size } fun v358' N358'=>
 tyS (asA 30 v358') fun cs359'=>
 tyS (asB (cs359'.getD 0 undef)) fun b360'=>
 tyS (asI .i64 (cs359'.getD 1 undef)) fun x361'=>
 tyS (asB (cs359'.getD 2 undef)) fun b362'=>
 tyS (asB (cs359'.getD 3 undef)) fun b363'=>
 tyS (asI .i64 (cs359'.getD 4 undef)) fun x364'=>
 tyS (asI .i64 (cs359'.getD 5 undef)) fun x365'=>
 tyS (asI .i64 (cs359'.getD 6 undef)) fun x366'=>
 tyS (asI .i64 (cs359'.getD 7 undef)) fun x367'=>
 tyS (asI .i64 (cs359'.getD 8 undef)) fun x368'=>
 tyS (asI .i64 (cs359'.getD 9 undef)) fun x369'=>
 tyS (asI .i64 (cs359'.getD 10 undef)) fun x370'=>
 tyS (asI .i64 (cs359'.getD 11 undef)) fun x371'=>
 tyS (asI .i64 (cs359'.getD 12 undef)) fun x372'=>
 tyS (asI .i64 (cs359'.getD 13 undef)) fun x373'=>
 tyS (asI .i64 (cs359'.getD 14 undef)) fun x374'=>
 tyS (asI .i64 (cs359'.getD 15 undef)) fun x375'=>
 tyS (asI .i64 (cs359'.getD 16 undef)) fun x376'=>
 tyS (asB (cs359'.getD 17 undef)) fun b377'=>
 tyS (asI .i64 (cs359'.getD 18 undef)) fun x378'=>
 tyS (asI .i64 (cs359'.getD 19 undef)) fun x379'=>
 tyS (asI .i64 (cs359'.getD 20 undef)) fun x380'=>
 tyS (asI .i64 (cs359'.getD 21 undef)) fun x381'=>
 tyS (asI .i64 (cs359'.getD 22 undef)) fun x382'=>
 tyS (asB (cs359'.getD 23 undef)) fun b383'=>
 tyS (asI .i64 (cs359'.getD 24 undef)) fun x384'=>
 tyS (asI .i64 (cs359'.getD 25 undef)) fun x385'=>
 tyS (asS (cs359'.getD 26 undef)) fun s386'=>
 tyS (asB (cs359'.getD 27 undef)) fun b387'=>
 tyS (asB (cs359'.getD 28 undef)) fun b388'=>
 tyS (asB (cs359'.getD 29 undef)) fun b389'=>
 Cn Try.prog 26 #[.agg #[.bool b360',.int .i64 x361',.bool b362',.bool b363',.int .i64 x364',.int .i64 x365',.int .i64 x366',.int .i64 x367',.int .i64 x368',.int .i64 x369',.int .i64 x370',.int .i64 x371',.int .i64 x372',.int .i64 x373',.int .i64 x374',.int .i64 x375',.int .i64 x376',.bool b377',.int .i64 x378',.int .i64 x379',.int .i64 x380',.int .i64 x381',.int .i64 x382',.bool b383',.int .i64 x384',.int .i64 x385',.slice s386'.1 (s386'.2.1) (s386'.2.2),.bool b387',.bool b388',.bool b389'],.agg #[.int .i64 x356',.int .i64 x357']] ({ N358' with floor:=N353'.floor }:Mem) fun v390' N390'=>
 tyS (asI .i64 v390') fun x391'=>
 A8_7 x1 (x391' == 0) N390' Q) (
 A8_7 x1 false N353' Q))):
 A8_6 x1 x142 M Q:=
 LvP.mk (cuts:=K8) (sp:=Z8) 900 H fun G=>by kernel_rfl
theorem w8_7 {x1:Option Addr} {x152:Bool} {M:Mem} {Q:Value→Mem→Prop} (H:
 cnd x152 (
 adS x1 fun a392'=>
 onS (M.intAt .i64 a392'.block a392'.off) fun x393'=>
 onS (M.intAt .i64 a392'.block (a392'.off+1)) fun x394'=>
 Cn Try.prog 41 #[] { M with floor:=M.nb.size } fun v395' N395'=>
 tyS (asA 30 v395') fun cs396'=>
 tyS (asB (cs396'.getD 0 undef)) fun b397'=>
 tyS (asI .i64 (cs396'.getD 1 undef)) fun x398'=>
 tyS (asB (cs396'.getD 2 undef)) fun b399'=>
 tyS (asB (cs396'.getD 3 undef)) fun b400'=>
 tyS (asI .i64 (cs396'.getD 4 undef)) fun x401'=>
 tyS (asI .i64 (cs396'.getD 5 undef)) fun x402'=>
 tyS (asI .i64 (cs396'.getD 6 undef)) fun x403'=>
 tyS (asI .i64 (cs396'.getD 7 undef)) fun x404'=>
 tyS (asI .i64 (cs396'.getD 8 undef)) fun x405'=>
 tyS (asI .i64 (cs396'.getD 9 undef)) fun x406'=>
 tyS (asI .i64 (cs396'.getD 10 undef)) fun x407'=>
 tyS (asI .i64 (cs396'.getD 11 undef)) fun x408'=>
 tyS (asI .i64 (cs396'.getD 12 undef)) fun x409'=>
 tyS (asI .i64 (cs396'.getD 13 undef)) fun x410'=>
 tyS (asI .i64 (cs396'.getD 14 undef)) fun x411'=>
 tyS (asI .i64 (cs396'.getD 15 undef)) fun x412'=>
 tyS (asI .i64 (cs396'.getD 16 undef)) fun x413'=>
 tyS (asB (cs396'.getD 17 undef)) fun b414'=>
 tyS (asI .i64 (cs396'.getD 18 undef)) fun x415'=>
 tyS (asI .i64 (cs396'.getD 19 undef)) fun x416'=>
 tyS (asI .i64 (cs396'.getD 20 undef)) fun x417'=>
 tyS (asI .i64 (cs396'.getD 21 undef)) fun x418'=>
 tyS (asI .i64 (cs396'.getD 22 undef)) fun x419'=>
 tyS (asB (cs396'.getD 23 undef)) fun b420'=>
 tyS (asI .i64 (cs396'.getD 24 undef)) fun x421'=>
 tyS (asI .i64 (cs396'.getD 25 undef)) fun x422'=>
 tyS (asS (cs396'.getD 26 undef)) fun s423'=>
 tyS (asB (cs396'.getD 27 undef)) fun b424'=>
 tyS (asB (cs396'.getD 28 undef)) fun b425'=>
 tyS (asB (cs396'.getD 29 undef)) fun b426'=>
 Cn Try.prog 42 #[.int .i64 9] { ({ N395' with floor:=M.floor }:Mem) with floor:=({ N395' with floor:=M.floor }:Mem).nb.size } fun v427' N427'=>
 tyS (asA 30 v427') fun cs428'=>
 tyS (asB (cs428'.getD 0 undef)) fun b429'=>
 tyS (asI .i64 (cs428'.getD 1 undef)) fun x430'=>
 tyS (asB (cs428'.getD 2 undef)) fun b431'=>
 tyS (asB (cs428'.getD 3 undef)) fun b432'=>
 tyS (asI .i64 (cs428'.getD 4 undef)) fun x433'=>
 tyS (asI .i64 (cs428'.getD 5 undef)) fun x434'=>
 tyS (asI .i64 (cs428'.getD 6 undef)) fun x435'=>
 tyS (asI .i64 (cs428'.getD 7 undef)) fun x436'=>
 tyS (asI .i64 (cs428'.getD 8 undef)) fun x437'=>
 tyS (asI .i64 (cs428'.getD 9 undef)) fun x438'=>
 tyS (asI .i64 (cs428'.getD 10 undef)) fun x439'=>
 tyS (asI .i64 (cs428'.getD 11 undef)) fun x440'=>
 tyS (asI .i64 (cs428'.getD 12 undef)) fun x441'=>
 tyS (asI .i64 (cs428'.getD 13 undef)) fun x442'=>
 tyS (asI .i64 (cs428'.getD 14 undef)) fun x443'=>
 tyS (asI .i64 (cs428'.getD 15 undef)) fun x444'=>
 tyS (asI .i64 (cs428'.getD 16 undef)) fun x445'=>
 tyS (asB (cs428'.getD 17 undef)) fun b446'=>
 tyS (asI .i64 (cs428'.getD 18 undef)) fun x447'=>
 tyS (asI .i64 (cs428'.getD 19 undef)) fun x448'=>
 tyS (asI .i64 (cs428'.getD 20 undef)) fun x449'=>
 tyS (asI .i64 (cs428'.getD 21 undef)) fun x450'=>
 tyS (asI .i64 (cs428'.getD 22 undef)) fun x451'=>
 tyS (asB (cs428'.getD 23 undef)) fun b452'=>
 tyS (asI .i64 (cs428'.getD 24 undef)) fun x453'=>
 tyS (asI .i64 (cs428'.getD 25 undef)) fun x454'=>
 tyS (asS (cs428'.getD 26 undef)) fun s455'=>
 tyS (asB (cs428'.getD 27 undef)) fun b456'=>
 tyS (asB (cs428'.getD 28 undef)) fun b457'=>
 tyS (asB (cs428'.getD 29 undef)) fun b458'=>
 Cn Try.prog 6 #[.slice (some ⟨2*({ N427' with floor:=({ N395' with floor:=M.floor }:Mem).floor }:Mem).nb.size,0,none⟩) 4 4,.agg #[.int .i64 x393',.int .i64 x394']] (({ N427' with floor:=({ N395' with floor:=M.floor }:Mem).floor }:Mem).new (.cells #[.bool true,.int .i64 5,.bool false,.bool false,.int .i64 0,.int .i64 0,.int .i64 0,.int .i64 0,.int .i64 0,.int .i64 0,.int .i64 0,.int .i64 0,.int .i64 0,.int .i64 0,.int .i64 0,.int .i64 0,.int .i64 0,.bool false,.int .i64 0,.int .i64 0,.int .i64 0,.int .i64 0,.int .i64 0,.bool false,.int .i64 0,.int .i64 0,.slice none 0 0,.bool false,.bool false,.bool false,.bool b397',.int .i64 x398',.bool b399',.bool b400',.int .i64 x401',.int .i64 x402',.int .i64 x403',.int .i64 x404',.int .i64 x405',.int .i64 x406',.int .i64 x407',.int .i64 x408',.int .i64 x409',.int .i64 x410',.int .i64 x411',.int .i64 x412',.int .i64 x413',.bool b414',.int .i64 x415',.int .i64 x416',.int .i64 x417',.int .i64 x418',.int .i64 x419',.bool b420',.int .i64 x421',.int .i64 x422',.slice s423'.1 (s423'.2.1) (s423'.2.2),.bool b424',.bool b425',.bool b426',.bool b429',.int .i64 x430',.bool b431',.bool b432',.int .i64 x433',.int .i64 x434',.int .i64 x435',.int .i64 x436',.int .i64 x437',.int .i64 x438',.int .i64 x439',.int .i64 x440',.int .i64 x441',.int .i64 x442',.int .i64 x443',.int .i64 x444',.int .i64 x445',.bool b446',.int .i64 x447',.int .i64 x448',.int .i64 x449',.int .i64 x450',.int .i64 x451',.bool b452',.int .i64 x453',.int .i64 x454',.slice s455'.1 (s455'.2.1) (s455'.2.2),.bool b456',.bool b457',.bool b458',.bool true,.int .i64 8,.bool false,.bool false,.int .i64 0,.int .i64 0,.int .i64 0,.int .i64 0,.int .i64 0,.int .i64 0,.int .i64 0,.int .i64 0,.int .i64 0,.int .i64 0,.int .i64 0,.int .i64 0,.int .i64 0,.bool false,.int .i64 0,.int .i64 0,.int .i64 0,.int .i64 0,.int .i64 0,.bool false,.int .i64 0,.int .i64 0,.slice none 0 0,.bool false,.bool false,.bool false] 41)) fun v459' N459'=>
 tyS (asB v459') fun b460'=>
 Q (.bool b460') N459') (
 Q (.bool false) M)):
 A8_7 x1 x152 M Q:=
 LvP.mk (cuts:=K8) (sp:=Z8) 900 H fun G=>by kernel_rfl
end Go.Zt

/- Layer 20: HeadsNames: readers and writers that are none; the end of the walk. Printed by genK.py. -/
set_option linter.unusedSimpArgs false
set_option linter.unusedVariables false
set_option maxRecDepth 100000
namespace Go.Zt
open Go Go.Sim Go.Proofs Go.RowKit
theorem ty30 (h:Hd) {P:Bool→Int→Bool→Bool→Int→Int→Int→Int→Int→Int→Int→Int→Int→Int→Int→Int→Int→Bool→Int→Int→Int→Int→Int→Bool→Int→Int→(Option Addr × Nat × Nat)→Bool→Bool→Bool→Prop} (k:P h.ex h.sl h.sh h.ke h.rf h.r0 h.r1 h.r2 h.pr h.ba h.d0 h.d1 h.d2 h.d3 h.d4 h.co h.ro h.na h.l0 h.l1 h.l2 h.l3 h.sp h.cd h.da h.cb (h.A,h.n,h.c) h.x0 h.x1 h.x2):tyS (asB (h.cs.getD 0 undef)) fun y0=>tyS (asI .i64 (h.cs.getD 1 undef)) fun y1=>tyS (asB (h.cs.getD 2 undef)) fun y2=>tyS (asB (h.cs.getD 3 undef)) fun y3=>tyS (asI .i64 (h.cs.getD 4 undef)) fun y4=>tyS (asI .i64 (h.cs.getD 5 undef)) fun y5=>tyS (asI .i64 (h.cs.getD 6 undef)) fun y6=>tyS (asI .i64 (h.cs.getD 7 undef)) fun y7=>tyS (asI .i64 (h.cs.getD 8 undef)) fun y8=>tyS (asI .i64 (h.cs.getD 9 undef)) fun y9=>tyS (asI .i64 (h.cs.getD 10 undef)) fun y10=>tyS (asI .i64 (h.cs.getD 11 undef)) fun y11=>tyS (asI .i64 (h.cs.getD 12 undef)) fun y12=>tyS (asI .i64 (h.cs.getD 13 undef)) fun y13=>tyS (asI .i64 (h.cs.getD 14 undef)) fun y14=>tyS (asI .i64 (h.cs.getD 15 undef)) fun y15=>tyS (asI .i64 (h.cs.getD 16 undef)) fun y16=>tyS (asB (h.cs.getD 17 undef)) fun y17=>tyS (asI .i64 (h.cs.getD 18 undef)) fun y18=>tyS (asI .i64 (h.cs.getD 19 undef)) fun y19=>tyS (asI .i64 (h.cs.getD 20 undef)) fun y20=>tyS (asI .i64 (h.cs.getD 21 undef)) fun y21=>tyS (asI .i64 (h.cs.getD 22 undef)) fun y22=>tyS (asB (h.cs.getD 23 undef)) fun y23=>tyS (asI .i64 (h.cs.getD 24 undef)) fun y24=>tyS (asI .i64 (h.cs.getD 25 undef)) fun y25=>tyS (asS (h.cs.getD 26 undef)) fun y26=>tyS (asB (h.cs.getD 27 undef)) fun y27=>tyS (asB (h.cs.getD 28 undef)) fun y28=>tyS (asB (h.cs.getD 29 undef)) fun y29=>P y0 y1 y2 y3 y4 y5 y6 y7 y8 y9 y10 y11 y12 y13 y14 y15 y16 y17 y18 y19 y20 y21 y22 y23 y24 y25 y26 y27 y28 y29:=
  ty rfl (ty rfl (ty rfl (ty rfl (ty rfl (ty rfl (ty rfl (ty rfl (ty rfl (ty rfl (ty rfl (ty rfl (ty rfl (ty rfl (ty rfl (ty rfl (ty rfl (ty rfl (ty rfl (ty rfl (ty rfl (ty rfl (ty rfl (ty rfl (ty rfl (ty rfl (ty rfl (ty rfl (ty rfl (ty rfl (k))))))))))))))))))))))))))))))
section
variable {M N:Mem} {w e:Int} {js:Nat} {x0:Option Addr} {h:Hd}
theorem keepF {f:Nat} (K:Keep { M with floor:=f } N):Keep M { N with floor:=M.floor }:=⟨K.base,rfl,K.size,K.same⟩
theorem Cn64n:Cn Try.prog 64 #[.pointer none] M fun v N=>v=.bool false∧N=M:=w64_0 ⟨fun h=>(by cases h),fun _=>⟨rfl,rfl⟩⟩
theorem Cn33n {n:Int}:Cn Try.prog 33 #[.pointer none,.int .i64 n] M fun v N=>v=.tuple #[.int .u32 0,.int .i64 1]∧N=M:=w33_0 (Cn.eq Cn64n ⟨_,rfl,fun _=>⟨rfl,rfl⟩,fun h=>(by cases h)⟩)
theorem Cn46n:Cn Try.prog 46 #[.pointer none] M fun v N=>v=.bool false∧N=M:=w46_0 ⟨fun h=>(by cases h),fun _=>⟨rfl,rfl⟩⟩
theorem Cn46z {j:Nat} (a:M.nb[j]?=some (.cells #[.slice none 0 0,.int .i64 0,.bool false] 73)):Cn Try.prog 46 #[.pointer (some ⟨2*j,0,none⟩)] M fun v N=>v=.bool false∧N=M:=w46_0 ⟨fun _=>⟨_,rfl,_,bool_of (i:=0+2) a rfl,rfl,rfl⟩,fun h=>(by cases h)⟩
theorem Cn22e {v n:Int} (h:Cn Try.prog 46 #[.pointer x0] M fun v N=>v=.bool false∧N=M):Cn Try.prog 22 #[.pointer x0,.int .u32 v,.int .i64 n] M fun v N=>v=.int .i64 1∧N=M:=w22_0 (Cn.eq h ⟨_,rfl,fun _=>⟨rfl,rfl⟩,fun h=>(by cases h)⟩)
theorem Cn24e (hh:Cn Try.prog 46 #[.pointer x0] ((M.new (.cells h.cs 41)).new (.cells #[.int .i64 w,.int .i64 e] 23)) fun v N=>v=.bool false∧N=((M.new (.cells h.cs 41)).new (.cells #[.int .i64 w,.int .i64 e] 23))):Cn Try.prog 24 #[.pointer x0,.agg h.cs,.agg #[.int .i64 w,.int .i64 e]] M fun v N=>v=.int .i64 1∧Keep M N:=
  w24_0 (Cn.eq (Cn22e hh) (ty rfl (cT rfl ⟨rfl,(Chg.new _ _).trans (.new _ _)⟩)))
theorem Cn35n (hf:M.floor≤M.nb.size):Cn Try.prog 35 #[.pointer none,.agg #[.int .i64 w,.int .i64 e]] M fun v N=>v=.tuple #[.agg zP.cs,.int .i64 1]∧Keep M N:=by
  have K1:Keep M (M.new (.cells #[.int .i64 w,.int .i64 e] 23)):=.new _ _
  refine w35_0 ?_
  generalize M.new (.cells #[.int .i64 w,.int .i64 e] 23)=M1 at K1 ⊢
  exact Cn.eq Cn33n (ty rfl (ty rfl (ty rfl (cT rfl (stN (cs:=zP.cs) (fb hf K1) rfl rfl rfl fun M5 K5 z5 b5=>ldA b5 rfl ⟨rfl,K1.trans K5⟩)))))
abbrev sB:Array Value:=#[.int .i64 64,.int .i64 32]
abbrev eH (n:Int):Hd:={ zP with ex:=true,sl:=n }
theorem e8_7 (hf:M.floor≤M.nb.size) (s:M.nb[js]?=some (.cells sB 23)):A8_7 (some ⟨2*js,0,none⟩) true M fun v _=>v=.bool true:=by
  refine w8_7 (cT rfl (ad rfl (on (int_of (i:=0) s rfl) (on (int_of (i:=0+1) s rfl) (Cn.mono (c41 (M:={ M with floor:=M.nb.size }) (Nat.le_refl _)) ?_)))))
  rintro _ N ⟨rfl,K⟩
  have K':=keepF K
  refine ty rfl (ty30 uH ?_)
  generalize ({ N with floor:=M.floor }:Mem)=N1 at K' ⊢
  refine Cn.mono (c42 (M:={ N1 with floor:=N1.nb.size }) (x0:=9) (Nat.le_refl _) (by decide)) ?_
  rintro _ N2 ⟨h,X,rfl,G,K2,h9⟩
  obtain ⟨hA,hc,rfl⟩:=h9 rfl
  have K2':=keepF K2
  have hn:h.n=0:=G.1
  refine ty rfl (ty30 h ?_)
  generalize ({ N2 with floor:=N1.floor }:Mem)=N3 at K2' ⊢
  have T3:=K'.trans K2'
  have R:Row (N3.new (.cells #[.bool true,.int .i64 (eH 5).sl,.bool (eH 5).sh,.bool (eH 5).ke,.int .i64 (eH 5).rf,.int .i64 (eH 5).r0,.int .i64 (eH 5).r1,.int .i64 (eH 5).r2,.int .i64 (eH 5).pr,.int .i64 (eH 5).ba,.int .i64 (eH 5).d0,.int .i64 (eH 5).d1,.int .i64 (eH 5).d2,.int .i64 (eH 5).d3,.int .i64 (eH 5).d4,.int .i64 (eH 5).co,.int .i64 (eH 5).ro,.bool (eH 5).na,.int .i64 (eH 5).l0,.int .i64 (eH 5).l1,.int .i64 (eH 5).l2,.int .i64 (eH 5).l3,.int .i64 (eH 5).sp,.bool (eH 5).cd,.int .i64 (eH 5).da,.int .i64 (eH 5).cb,.slice (eH 5).A (eH 5).n (eH 5).c,.bool (eH 5).x0,.bool (eH 5).x1,.bool (eH 5).x2,.bool uH.ex,.int .i64 uH.sl,.bool uH.sh,.bool uH.ke,.int .i64 uH.rf,.int .i64 uH.r0,.int .i64 uH.r1,.int .i64 uH.r2,.int .i64 uH.pr,.int .i64 uH.ba,.int .i64 uH.d0,.int .i64 uH.d1,.int .i64 uH.d2,.int .i64 uH.d3,.int .i64 uH.d4,.int .i64 uH.co,.int .i64 uH.ro,.bool uH.na,.int .i64 uH.l0,.int .i64 uH.l1,.int .i64 uH.l2,.int .i64 uH.l3,.int .i64 uH.sp,.bool uH.cd,.int .i64 uH.da,.int .i64 uH.cb,.slice uH.A uH.n uH.c,.bool uH.x0,.bool uH.x1,.bool uH.x2,.bool h.ex,.int .i64 h.sl,.bool h.sh,.bool h.ke,.int .i64 h.rf,.int .i64 h.r0,.int .i64 h.r1,.int .i64 h.r2,.int .i64 h.pr,.int .i64 h.ba,.int .i64 h.d0,.int .i64 h.d1,.int .i64 h.d2,.int .i64 h.d3,.int .i64 h.d4,.int .i64 h.co,.int .i64 h.ro,.bool h.na,.int .i64 h.l0,.int .i64 h.l1,.int .i64 h.l2,.int .i64 h.l3,.int .i64 h.sp,.bool h.cd,.int .i64 h.da,.int .i64 h.cb,.slice h.A h.n h.c,.bool h.x0,.bool h.x1,.bool h.x2,.bool true,.int .i64 (eH 8).sl,.bool (eH 8).sh,.bool (eH 8).ke,.int .i64 (eH 8).rf,.int .i64 (eH 8).r0,.int .i64 (eH 8).r1,.int .i64 (eH 8).r2,.int .i64 (eH 8).pr,.int .i64 (eH 8).ba,.int .i64 (eH 8).d0,.int .i64 (eH 8).d1,.int .i64 (eH 8).d2,.int .i64 (eH 8).d3,.int .i64 (eH 8).d4,.int .i64 (eH 8).co,.int .i64 (eH 8).ro,.bool (eH 8).na,.int .i64 (eH 8).l0,.int .i64 (eH 8).l1,.int .i64 (eH 8).l2,.int .i64 (eH 8).l3,.int .i64 (eH 8).sp,.bool (eH 8).cd,.int .i64 (eH 8).da,.int .i64 (eH 8).cb,.slice (eH 8).A (eH 8).n (eH 8).c,.bool (eH 8).x0,.bool (eH 8).x1,.bool (eH 8).x2] 41)) (some ⟨2*N3.nb.size,0,none⟩) (Hds [(eH 5,[]),(uH,[]),(h,[]),(eH 8,[])]):=Row.new N3 41 [.bool true,.int .i64 (eH 5).sl,.bool (eH 5).sh,.bool (eH 5).ke,.int .i64 (eH 5).rf,.int .i64 (eH 5).r0,.int .i64 (eH 5).r1,.int .i64 (eH 5).r2,.int .i64 (eH 5).pr,.int .i64 (eH 5).ba,.int .i64 (eH 5).d0,.int .i64 (eH 5).d1,.int .i64 (eH 5).d2,.int .i64 (eH 5).d3,.int .i64 (eH 5).d4,.int .i64 (eH 5).co,.int .i64 (eH 5).ro,.bool (eH 5).na,.int .i64 (eH 5).l0,.int .i64 (eH 5).l1,.int .i64 (eH 5).l2,.int .i64 (eH 5).l3,.int .i64 (eH 5).sp,.bool (eH 5).cd,.int .i64 (eH 5).da,.int .i64 (eH 5).cb,.slice (eH 5).A (eH 5).n (eH 5).c,.bool (eH 5).x0,.bool (eH 5).x1,.bool (eH 5).x2,.bool uH.ex,.int .i64 uH.sl,.bool uH.sh,.bool uH.ke,.int .i64 uH.rf,.int .i64 uH.r0,.int .i64 uH.r1,.int .i64 uH.r2,.int .i64 uH.pr,.int .i64 uH.ba,.int .i64 uH.d0,.int .i64 uH.d1,.int .i64 uH.d2,.int .i64 uH.d3,.int .i64 uH.d4,.int .i64 uH.co,.int .i64 uH.ro,.bool uH.na,.int .i64 uH.l0,.int .i64 uH.l1,.int .i64 uH.l2,.int .i64 uH.l3,.int .i64 uH.sp,.bool uH.cd,.int .i64 uH.da,.int .i64 uH.cb,.slice uH.A uH.n uH.c,.bool uH.x0,.bool uH.x1,.bool uH.x2,.bool h.ex,.int .i64 h.sl,.bool h.sh,.bool h.ke,.int .i64 h.rf,.int .i64 h.r0,.int .i64 h.r1,.int .i64 h.r2,.int .i64 h.pr,.int .i64 h.ba,.int .i64 h.d0,.int .i64 h.d1,.int .i64 h.d2,.int .i64 h.d3,.int .i64 h.d4,.int .i64 h.co,.int .i64 h.ro,.bool h.na,.int .i64 h.l0,.int .i64 h.l1,.int .i64 h.l2,.int .i64 h.l3,.int .i64 h.sp,.bool h.cd,.int .i64 h.da,.int .i64 h.cb,.slice h.A h.n h.c,.bool h.x0,.bool h.x1,.bool h.x2,.bool true,.int .i64 (eH 8).sl,.bool (eH 8).sh,.bool (eH 8).ke,.int .i64 (eH 8).rf,.int .i64 (eH 8).r0,.int .i64 (eH 8).r1,.int .i64 (eH 8).r2,.int .i64 (eH 8).pr,.int .i64 (eH 8).ba,.int .i64 (eH 8).d0,.int .i64 (eH 8).d1,.int .i64 (eH 8).d2,.int .i64 (eH 8).d3,.int .i64 (eH 8).d4,.int .i64 (eH 8).co,.int .i64 (eH 8).ro,.bool (eH 8).na,.int .i64 (eH 8).l0,.int .i64 (eH 8).l1,.int .i64 (eH 8).l2,.int .i64 (eH 8).l3,.int .i64 (eH 8).sp,.bool (eH 8).cd,.int .i64 (eH 8).da,.int .i64 (eH 8).cb,.slice (eH 8).A (eH 8).n (eH 8).c,.bool (eH 8).x0,.bool (eH 8).x1,.bool (eH 8).x2]
  have z:=Mem.new_size N3 (.cells #[.bool true,.int .i64 (eH 5).sl,.bool (eH 5).sh,.bool (eH 5).ke,.int .i64 (eH 5).rf,.int .i64 (eH 5).r0,.int .i64 (eH 5).r1,.int .i64 (eH 5).r2,.int .i64 (eH 5).pr,.int .i64 (eH 5).ba,.int .i64 (eH 5).d0,.int .i64 (eH 5).d1,.int .i64 (eH 5).d2,.int .i64 (eH 5).d3,.int .i64 (eH 5).d4,.int .i64 (eH 5).co,.int .i64 (eH 5).ro,.bool (eH 5).na,.int .i64 (eH 5).l0,.int .i64 (eH 5).l1,.int .i64 (eH 5).l2,.int .i64 (eH 5).l3,.int .i64 (eH 5).sp,.bool (eH 5).cd,.int .i64 (eH 5).da,.int .i64 (eH 5).cb,.slice (eH 5).A (eH 5).n (eH 5).c,.bool (eH 5).x0,.bool (eH 5).x1,.bool (eH 5).x2,.bool uH.ex,.int .i64 uH.sl,.bool uH.sh,.bool uH.ke,.int .i64 uH.rf,.int .i64 uH.r0,.int .i64 uH.r1,.int .i64 uH.r2,.int .i64 uH.pr,.int .i64 uH.ba,.int .i64 uH.d0,.int .i64 uH.d1,.int .i64 uH.d2,.int .i64 uH.d3,.int .i64 uH.d4,.int .i64 uH.co,.int .i64 uH.ro,.bool uH.na,.int .i64 uH.l0,.int .i64 uH.l1,.int .i64 uH.l2,.int .i64 uH.l3,.int .i64 uH.sp,.bool uH.cd,.int .i64 uH.da,.int .i64 uH.cb,.slice uH.A uH.n uH.c,.bool uH.x0,.bool uH.x1,.bool uH.x2,.bool h.ex,.int .i64 h.sl,.bool h.sh,.bool h.ke,.int .i64 h.rf,.int .i64 h.r0,.int .i64 h.r1,.int .i64 h.r2,.int .i64 h.pr,.int .i64 h.ba,.int .i64 h.d0,.int .i64 h.d1,.int .i64 h.d2,.int .i64 h.d3,.int .i64 h.d4,.int .i64 h.co,.int .i64 h.ro,.bool h.na,.int .i64 h.l0,.int .i64 h.l1,.int .i64 h.l2,.int .i64 h.l3,.int .i64 h.sp,.bool h.cd,.int .i64 h.da,.int .i64 h.cb,.slice h.A h.n h.c,.bool h.x0,.bool h.x1,.bool h.x2,.bool true,.int .i64 (eH 8).sl,.bool (eH 8).sh,.bool (eH 8).ke,.int .i64 (eH 8).rf,.int .i64 (eH 8).r0,.int .i64 (eH 8).r1,.int .i64 (eH 8).r2,.int .i64 (eH 8).pr,.int .i64 (eH 8).ba,.int .i64 (eH 8).d0,.int .i64 (eH 8).d1,.int .i64 (eH 8).d2,.int .i64 (eH 8).d3,.int .i64 (eH 8).d4,.int .i64 (eH 8).co,.int .i64 (eH 8).ro,.bool (eH 8).na,.int .i64 (eH 8).l0,.int .i64 (eH 8).l1,.int .i64 (eH 8).l2,.int .i64 (eH 8).l3,.int .i64 (eH 8).sp,.bool (eH 8).cd,.int .i64 (eH 8).da,.int .i64 (eH 8).cb,.slice (eH 8).A (eH 8).n (eH 8).c,.bool (eH 8).x0,.bool (eH 8).x1,.bool (eH 8).x2] 41)
  have f3:=fb hf T3
  have gd:∀ x ∈ [((eH 5:Hd),([]:List Sg)),(uH,[]),(h,[]),(eH 8,[])],Gd (N3.new (.cells #[.bool true,.int .i64 (eH 5).sl,.bool (eH 5).sh,.bool (eH 5).ke,.int .i64 (eH 5).rf,.int .i64 (eH 5).r0,.int .i64 (eH 5).r1,.int .i64 (eH 5).r2,.int .i64 (eH 5).pr,.int .i64 (eH 5).ba,.int .i64 (eH 5).d0,.int .i64 (eH 5).d1,.int .i64 (eH 5).d2,.int .i64 (eH 5).d3,.int .i64 (eH 5).d4,.int .i64 (eH 5).co,.int .i64 (eH 5).ro,.bool (eH 5).na,.int .i64 (eH 5).l0,.int .i64 (eH 5).l1,.int .i64 (eH 5).l2,.int .i64 (eH 5).l3,.int .i64 (eH 5).sp,.bool (eH 5).cd,.int .i64 (eH 5).da,.int .i64 (eH 5).cb,.slice (eH 5).A (eH 5).n (eH 5).c,.bool (eH 5).x0,.bool (eH 5).x1,.bool (eH 5).x2,.bool uH.ex,.int .i64 uH.sl,.bool uH.sh,.bool uH.ke,.int .i64 uH.rf,.int .i64 uH.r0,.int .i64 uH.r1,.int .i64 uH.r2,.int .i64 uH.pr,.int .i64 uH.ba,.int .i64 uH.d0,.int .i64 uH.d1,.int .i64 uH.d2,.int .i64 uH.d3,.int .i64 uH.d4,.int .i64 uH.co,.int .i64 uH.ro,.bool uH.na,.int .i64 uH.l0,.int .i64 uH.l1,.int .i64 uH.l2,.int .i64 uH.l3,.int .i64 uH.sp,.bool uH.cd,.int .i64 uH.da,.int .i64 uH.cb,.slice uH.A uH.n uH.c,.bool uH.x0,.bool uH.x1,.bool uH.x2,.bool h.ex,.int .i64 h.sl,.bool h.sh,.bool h.ke,.int .i64 h.rf,.int .i64 h.r0,.int .i64 h.r1,.int .i64 h.r2,.int .i64 h.pr,.int .i64 h.ba,.int .i64 h.d0,.int .i64 h.d1,.int .i64 h.d2,.int .i64 h.d3,.int .i64 h.d4,.int .i64 h.co,.int .i64 h.ro,.bool h.na,.int .i64 h.l0,.int .i64 h.l1,.int .i64 h.l2,.int .i64 h.l3,.int .i64 h.sp,.bool h.cd,.int .i64 h.da,.int .i64 h.cb,.slice h.A h.n h.c,.bool h.x0,.bool h.x1,.bool h.x2,.bool true,.int .i64 (eH 8).sl,.bool (eH 8).sh,.bool (eH 8).ke,.int .i64 (eH 8).rf,.int .i64 (eH 8).r0,.int .i64 (eH 8).r1,.int .i64 (eH 8).r2,.int .i64 (eH 8).pr,.int .i64 (eH 8).ba,.int .i64 (eH 8).d0,.int .i64 (eH 8).d1,.int .i64 (eH 8).d2,.int .i64 (eH 8).d3,.int .i64 (eH 8).d4,.int .i64 (eH 8).co,.int .i64 (eH 8).ro,.bool (eH 8).na,.int .i64 (eH 8).l0,.int .i64 (eH 8).l1,.int .i64 (eH 8).l2,.int .i64 (eH 8).l3,.int .i64 (eH 8).sp,.bool (eH 8).cd,.int .i64 (eH 8).da,.int .i64 (eH 8).cb,.slice (eH 8).A (eH 8).n (eH 8).c,.bool (eH 8).x0,.bool (eH 8).x1,.bool (eH 8).x2] 41)) 1048576 x:=by
    intro x hx
    have zero:∀ u:Hd,u.A=none→u.n=0→u.c=0→Gd (N3.new (.cells #[.bool true,.int .i64 (eH 5).sl,.bool (eH 5).sh,.bool (eH 5).ke,.int .i64 (eH 5).rf,.int .i64 (eH 5).r0,.int .i64 (eH 5).r1,.int .i64 (eH 5).r2,.int .i64 (eH 5).pr,.int .i64 (eH 5).ba,.int .i64 (eH 5).d0,.int .i64 (eH 5).d1,.int .i64 (eH 5).d2,.int .i64 (eH 5).d3,.int .i64 (eH 5).d4,.int .i64 (eH 5).co,.int .i64 (eH 5).ro,.bool (eH 5).na,.int .i64 (eH 5).l0,.int .i64 (eH 5).l1,.int .i64 (eH 5).l2,.int .i64 (eH 5).l3,.int .i64 (eH 5).sp,.bool (eH 5).cd,.int .i64 (eH 5).da,.int .i64 (eH 5).cb,.slice (eH 5).A (eH 5).n (eH 5).c,.bool (eH 5).x0,.bool (eH 5).x1,.bool (eH 5).x2,.bool uH.ex,.int .i64 uH.sl,.bool uH.sh,.bool uH.ke,.int .i64 uH.rf,.int .i64 uH.r0,.int .i64 uH.r1,.int .i64 uH.r2,.int .i64 uH.pr,.int .i64 uH.ba,.int .i64 uH.d0,.int .i64 uH.d1,.int .i64 uH.d2,.int .i64 uH.d3,.int .i64 uH.d4,.int .i64 uH.co,.int .i64 uH.ro,.bool uH.na,.int .i64 uH.l0,.int .i64 uH.l1,.int .i64 uH.l2,.int .i64 uH.l3,.int .i64 uH.sp,.bool uH.cd,.int .i64 uH.da,.int .i64 uH.cb,.slice uH.A uH.n uH.c,.bool uH.x0,.bool uH.x1,.bool uH.x2,.bool h.ex,.int .i64 h.sl,.bool h.sh,.bool h.ke,.int .i64 h.rf,.int .i64 h.r0,.int .i64 h.r1,.int .i64 h.r2,.int .i64 h.pr,.int .i64 h.ba,.int .i64 h.d0,.int .i64 h.d1,.int .i64 h.d2,.int .i64 h.d3,.int .i64 h.d4,.int .i64 h.co,.int .i64 h.ro,.bool h.na,.int .i64 h.l0,.int .i64 h.l1,.int .i64 h.l2,.int .i64 h.l3,.int .i64 h.sp,.bool h.cd,.int .i64 h.da,.int .i64 h.cb,.slice h.A h.n h.c,.bool h.x0,.bool h.x1,.bool h.x2,.bool true,.int .i64 (eH 8).sl,.bool (eH 8).sh,.bool (eH 8).ke,.int .i64 (eH 8).rf,.int .i64 (eH 8).r0,.int .i64 (eH 8).r1,.int .i64 (eH 8).r2,.int .i64 (eH 8).pr,.int .i64 (eH 8).ba,.int .i64 (eH 8).d0,.int .i64 (eH 8).d1,.int .i64 (eH 8).d2,.int .i64 (eH 8).d3,.int .i64 (eH 8).d4,.int .i64 (eH 8).co,.int .i64 (eH 8).ro,.bool (eH 8).na,.int .i64 (eH 8).l0,.int .i64 (eH 8).l1,.int .i64 (eH 8).l2,.int .i64 (eH 8).l3,.int .i64 (eH 8).sp,.bool (eH 8).cd,.int .i64 (eH 8).da,.int .i64 (eH 8).cb,.slice (eH 8).A (eH 8).n (eH 8).c,.bool (eH 8).x0,.bool (eH 8).x1,.bool (eH 8).x2] 41)) 1048576 (u,[]):=fun u h1 h2 h3=>⟨h2,by show u.n≤u.c; omega,by show u.n≤_; omega,fun a ha=>(by rw [h1] at ha; cases ha),fun i hi=>(by simp at hi),fun _=>h3⟩
    simp only [List.mem_cons,List.not_mem_nil,or_false] at hx
    rcases hx with rfl | rfl | rfl | rfl
    · exact zero _ rfl rfl rfl
    · exact zero _ rfl rfl rfl
    · exact zero _ hA hn hc
    · exact zero _ rfl rfl rfl
  refine Cn.mono (c6k (M:=N3.new (.cells #[.bool true,.int .i64 (eH 5).sl,.bool (eH 5).sh,.bool (eH 5).ke,.int .i64 (eH 5).rf,.int .i64 (eH 5).r0,.int .i64 (eH 5).r1,.int .i64 (eH 5).r2,.int .i64 (eH 5).pr,.int .i64 (eH 5).ba,.int .i64 (eH 5).d0,.int .i64 (eH 5).d1,.int .i64 (eH 5).d2,.int .i64 (eH 5).d3,.int .i64 (eH 5).d4,.int .i64 (eH 5).co,.int .i64 (eH 5).ro,.bool (eH 5).na,.int .i64 (eH 5).l0,.int .i64 (eH 5).l1,.int .i64 (eH 5).l2,.int .i64 (eH 5).l3,.int .i64 (eH 5).sp,.bool (eH 5).cd,.int .i64 (eH 5).da,.int .i64 (eH 5).cb,.slice (eH 5).A (eH 5).n (eH 5).c,.bool (eH 5).x0,.bool (eH 5).x1,.bool (eH 5).x2,.bool uH.ex,.int .i64 uH.sl,.bool uH.sh,.bool uH.ke,.int .i64 uH.rf,.int .i64 uH.r0,.int .i64 uH.r1,.int .i64 uH.r2,.int .i64 uH.pr,.int .i64 uH.ba,.int .i64 uH.d0,.int .i64 uH.d1,.int .i64 uH.d2,.int .i64 uH.d3,.int .i64 uH.d4,.int .i64 uH.co,.int .i64 uH.ro,.bool uH.na,.int .i64 uH.l0,.int .i64 uH.l1,.int .i64 uH.l2,.int .i64 uH.l3,.int .i64 uH.sp,.bool uH.cd,.int .i64 uH.da,.int .i64 uH.cb,.slice uH.A uH.n uH.c,.bool uH.x0,.bool uH.x1,.bool uH.x2,.bool h.ex,.int .i64 h.sl,.bool h.sh,.bool h.ke,.int .i64 h.rf,.int .i64 h.r0,.int .i64 h.r1,.int .i64 h.r2,.int .i64 h.pr,.int .i64 h.ba,.int .i64 h.d0,.int .i64 h.d1,.int .i64 h.d2,.int .i64 h.d3,.int .i64 h.d4,.int .i64 h.co,.int .i64 h.ro,.bool h.na,.int .i64 h.l0,.int .i64 h.l1,.int .i64 h.l2,.int .i64 h.l3,.int .i64 h.sp,.bool h.cd,.int .i64 h.da,.int .i64 h.cb,.slice h.A h.n h.c,.bool h.x0,.bool h.x1,.bool h.x2,.bool true,.int .i64 (eH 8).sl,.bool (eH 8).sh,.bool (eH 8).ke,.int .i64 (eH 8).rf,.int .i64 (eH 8).r0,.int .i64 (eH 8).r1,.int .i64 (eH 8).r2,.int .i64 (eH 8).pr,.int .i64 (eH 8).ba,.int .i64 (eH 8).d0,.int .i64 (eH 8).d1,.int .i64 (eH 8).d2,.int .i64 (eH 8).d3,.int .i64 (eH 8).d4,.int .i64 (eH 8).co,.int .i64 (eH 8).ro,.bool (eH 8).na,.int .i64 (eH 8).l0,.int .i64 (eH 8).l1,.int .i64 (eH 8).l2,.int .i64 (eH 8).l3,.int .i64 (eH 8).sp,.bool (eH 8).cd,.int .i64 (eH 8).da,.int .i64 (eH 8).cb,.slice (eH 8).A (eH 8).n (eH 8).c,.bool (eH 8).x0,.bool (eH 8).x1,.bool (eH 8).x2] 41)) (Hs:=[(eH 5,[]),(uH,[]),(h,[]),(eH 8,[])]) (by show N3.floor≤_; omega) R rfl (show 4≤1048576 by decide) (fun a ha=>.inr ?_) gd) ?_
  · obtain rfl:=Option.some.inj ha
    show (2*N3.nb.size) / 2<_
    omega
  · rintro _ N4 rfl
    exact ty rfl rfl
theorem e8_6 (hf:M.floor≤M.nb.size) (s:M.nb[js]?=some (.cells sB 23)):A8_6 (some ⟨2*js,0,none⟩) false M fun v _=>v=.bool true:=by
  refine w8_6 (cF rfl (Cn.known (by rfl) (ty rfl (cT rfl (ad rfl (on (int_of (i:=0) s rfl) (on (int_of (i:=0+1) s rfl) (Cn.mono (c41 (M:={ M with floor:=M.nb.size }) (Nat.le_refl _)) ?_))))))))
  rintro _ N ⟨rfl,K⟩
  have K':=keepF K
  refine ty rfl (ty30 uH ?_)
  generalize ({ N with floor:=M.floor }:Mem)=N1 at K' ⊢
  refine Cn.mono (c26 (h:=uH) (X:=[]) (w:=64) (e:=32) (fb hf K') rfl (by decide) (fun i hi=>by simp at hi)) ?_
  rintro _ N2 ⟨rfl,K2⟩
  have T2:=K'.trans K2
  exact ty rfl (e8_7 (fb hf T2) (at_keep s T2))
end
end Go.Zt

/- Layer 20: HeadsAny: what is read without a fault: the bits that stood there,and the numbers' ranges. Plain. -/
set_option linter.unusedSimpArgs false
set_option linter.unusedVariables false
set_option maxRecDepth 100000
namespace Go.Zt
open Go Go.Sim Go.Proofs Go.RowKit
structure Bt (b:List Nat) (p q:Nat) (l:List Nat):Prop where
  seg:Go.Zt.seg (bitOf b) p l.length=l
  len:p+l.length=q
  le:q≤8*b.length
section
variable {b:List Nat} {p q o:Nat} {l l':List Nat} {h g:Hd} {c c0:Cd} {X:List Sg} {w e:Int}
end
end Go.Zt

/- Layer 20: HeadsAny: a header that is read without a fault: its bits stood there,and it may be. Plain. -/
set_option linter.unusedSimpArgs false
set_option linter.unusedVariables false
set_option maxRecDepth 100000
namespace Go.Zt
open Go Go.Sim Go.Proofs Go.RowKit
section
variable {b:List Nat} {p:Nat} {c c0:Cd} {X:List Sg} {w e:Int}
end
end Go.Zt

/- Layer 20: HeadsAny: a whole header that is read without a fault. Plain. -/
set_option linter.unusedSimpArgs false
set_option linter.unusedVariables false
set_option maxRecDepth 100000
namespace Go.Zt
open Go Go.Sim Go.Proofs Go.RowKit
section
variable {b:List Nat} {p:Nat} {c c0:Cd} {X:List Sg} {w e:Int}
end
end Go.Zt

/- Layer 20: HeadsAny: a whole header that is read without a fault: it may be,and its bits stood there. Plain. -/
set_option linter.unusedSimpArgs false
set_option linter.unusedVariables false
set_option maxRecDepth 100000
namespace Go.Zt
open Go Go.Sim Go.Proofs Go.RowKit
section
variable {b:List Nat} {p:Nat} {c c0:Cd} {X:List Sg} {w e:Int}
end
end Go.Zt

/- Layer 20: HeadsAny: which faults a reading may have. Plain. -/
set_option linter.unusedSimpArgs false
set_option linter.unusedVariables false
set_option maxRecDepth 100000
namespace Go.Zt
open Go Go.Sim Go.Proofs Go.RowKit
section
variable {b:List Nat} {w e:Int} {c c0 c1:Cd} {X X0:List Sg}
end
end Go.Zt

/- Layer 20: HeadsAny: a reading of a prefix: alike,or it runs out. Plain. -/
set_option linter.unusedSimpArgs false
set_option linter.unusedVariables false
set_option maxRecDepth 100000
namespace Go.Zt
open Go Go.Sim Go.Proofs Go.RowKit
def Pre (b' b:List Nat):Prop:=b'.length≤b.length∧∀ i,i<8*b'.length→bitOf b' i=bitOf b i
section
variable {b b':List Nat} {w e:Int} {c c' c0 c0':Cd} {X X':List Sg} (P:Pre b' b)
include P
end
end Go.Zt

/- Layer 20: HeadsAny: a reading of a prefix: deltas,strengths,filters. Plain. -/
set_option linter.unusedSimpArgs false
set_option linter.unusedVariables false
set_option maxRecDepth 100000
namespace Go.Zt
open Go Go.Sim Go.Proofs Go.RowKit
section
variable {b b':List Nat} {w e:Int} {c c' c0 c0':Cd} {X X':List Sg} (P:Pre b' b)
include P
end
end Go.Zt

/- Layer 20: HeadsAny: a reading of a prefix: a whole header. Plain. -/
set_option linter.unusedSimpArgs false
set_option linter.unusedVariables false
set_option maxRecDepth 100000
namespace Go.Zt
open Go Go.Sim Go.Proofs Go.RowKit
section
variable {b b':List Nat} {w e:Int} {c c' c0 c0':Cd} {X X':List Sg} (P:Pre b' b)
end
end Go.Zt

/- Layer 20: HeadsAny: a reading of a prefix: a whole header. Plain. -/
set_option linter.unusedSimpArgs false
set_option linter.unusedVariables false
set_option maxRecDepth 100000
namespace Go.Zt
open Go Go.Sim Go.Proofs Go.RowKit
section
variable {b b':List Nat} {w e:Int} {p:Nat} {c c' c0 c0':Cd} {X X':List Sg} (P:Pre b' b)
include P
end
end Go.Zt

/- Layer 20: HeadsAny: a reading of a prefix: a whole header. Plain. -/
set_option linter.unusedSimpArgs false
set_option linter.unusedVariables false
set_option maxRecDepth 100000
namespace Go.Zt
open Go Go.Sim Go.Proofs Go.RowKit
section
variable {b b':List Nat} {w e:Int} {p:Nat} {c c' c0 c0':Cd} {X X':List Sg} (P:Pre b' b)
include P
end
end Go.Zt

/- The functions' walks: for each function and each loop a rule of what it comes to. Printed by zw2.py. -/
set_option linter.unusedVariables false
set_option maxRecDepth 100000
namespace Go.Zt
open Go Go.Sim Go.Proofs
end Go.Zt

/- Layer 20: HeadsAny: the walk: the bits are compared. -/
set_option linter.unusedSimpArgs false
set_option linter.unusedVariables false
set_option maxRecDepth 100000
namespace Go.Zt
open Go Go.Sim Go.Proofs Go.RowKit
section
variable {U1 U2:Nat→Prop} {M0:Mem} {j1 j2 q:Nat} {b1 b2:List Nat} {Ah x3:Option Addr} {nh ch:Nat} {Q:Value→Mem→Prop}
end
end Go.Zt

/- Layer 20: HeadsAny: the walk: the bytes cut,and a byte more. -/
set_option linter.unusedSimpArgs false
set_option linter.unusedVariables false
set_option maxRecDepth 100000
namespace Go.Zt
open Go Go.Sim Go.Proofs Go.RowKit
theorem Rdr.fl {U:Nat→Prop} {M:Mem} {j p f:Nat} {b:List Nat} (D:Rdr U M j b p):Rdr U { M with floor:=f } j b p:=⟨D.out,D.byt,D.len,D.pos,D.ex⟩
theorem Row.fl {M:Mem} {A:Option Addr} {L:List Value} {f:Nat} (h:Row M A L):Row { M with floor:=f } A L:=h
theorem keep_res (M:Mem) (k:Nat):Keep M (M.res k):=⟨(res_same M k).1,(res_same M k).2,by rw [res_size]; omega,fun j hj _=>by rw [res_at,if_pos hj]⟩
theorem keep_fl {M N:Mem} {f:Nat} (K:Keep { M with floor:=f } N):Keep M { N with floor:=M.floor }:=⟨K.base,rfl,K.size,K.same⟩
section
variable {M:Mem} {w e:Int} {Ah:Option Addr} {nh ch js q:Nat} {b:List Nat}
theorem rd2 {A:Option Addr} {n c:Nat} {P:Value→Mem→Prop} (hf:M.floor≤M.nb.size) (hm:mayS w e=true) (hR:Row M A (U8 b)) (hn:n=b.length) (hl:b.length≤4294967296) (hB:Byt b)
    (K:∀ (h:Hd) (k:Cd) (X:List Sg) (N:Mem),HeadT w e (.r b 0,0,zP) [] k X→Keep M N→P (.tuple #[.agg h.cs,.int .i64 (k.2.1:Nat)]) N):
    Cn Try.prog 31 #[.slice A n c] { M with floor:=M.nb.size } fun v N=>tyS (asP v) fun p=>Cn Try.prog 35 #[.pointer p,.agg #[.int .i64 w,.int .i64 e]] { N with floor:=M.floor } P:=by
  refine Cn.mono (c31 (M:={ M with floor:=M.nb.size }) (Nat.le_refl _) (Row.fl hR) hn.symm (by omega) hB) ?_
  rintro _ M2 ⟨j,rfl,K2,d1,d2,D⟩
  have z2:M.nb.size≤M2.nb.size:=K2.size
  have d1':M.nb.size≤j:=d1
  refine ty rfl (Cn.mono (c35 (M:={ M2 with floor:=M.floor }) (Rdr.fl D) (show M.floor≤j by omega) (show M.floor≤M2.nb.size by omega) (fun i hi=>by
    have h1:M.nb.size≤i:=hi.1
    show M.floor≤i
    omega) (fun i hi=>by
    have h1:i<j:=hi.2
    show i<M2.nb.size
    omega)) ?_)
  rw [if_pos hm]
  rintro v N ⟨U',k,X,hT,sub,C,dv,ub,res⟩
  have KN:Keep M N:=Keep.step (keep_fl K2) C fun i hi=>by
    rcases hi with h | h | h
    · exact h.1
    · omega
    · have h':M2.nb.size≤i:=h
      omega
  rcases res with ⟨h0,rfl⟩ | ⟨h0,rfl,_⟩
  · exact K zP k X N hT KN
  · have:=K k.2.2 k X N hT KN
    rw [h0] at this
    exact this
end
end Go.Zt

/- Layer 20: HeadsNames: the walk,and the law. -/
set_option linter.unusedSimpArgs false
set_option linter.unusedVariables false
set_option maxRecDepth 100000
namespace Go.Zt
open Go Go.Sim Go.Proofs Go.RowKit
abbrev fl7:List Nat:=[96,32,240,0,0,0,0]
theorem fault4 {c:Cd} {X:List Sg} (h:HeadT 64 32 (.r fl7 0,0,zP) [] c X):c.2.1=4:=by
  obtain ⟨c1,h1,h⟩:=h
  have e1:c1=(.r fl7 1,0,zP):=h1.trans (by kernel_rfl)
  subst e1
  rw [if_neg (by decide)] at h
  obtain ⟨c2,h2,c3,h3,c4,h4,c5,h5,c6,h6,h7⟩:=h
  have e2:c2=(.r fl7 2,0,{ zP with sh:=true }):=h2.trans (by kernel_rfl)
  subst e2
  have e3:c3=(.r fl7 3,0,{ zP with sh:=true,ke:=true }):=h3.trans (by kernel_rfl)
  subst e3
  have e4:c4=(.r fl7 11,0,{ zP with sh:=true,ke:=true,rf:=1 }):=h4.trans (by kernel_rfl)
  subst e4
  obtain ⟨d1,t,g1,g2⟩:=h5
  rw [if_pos rfl] at g1
  obtain ⟨rfl,rfl⟩:=g1
  rw [if_neg (by decide)] at g2
  subst g2
  have e6:c6=(.r fl7 19,0,{ zP with sh:=true,ke:=true,rf:=1,pr := -1,ba:=7 }):=h6.trans (by kernel_rfl)
  subst e6
  obtain ⟨u1,k1,u2,k2,u3,k3,u4,k4,u5,k5,u6,k6,u7,k7,u8,k8,k9⟩:=h7
  have z1:u1.2.1=4:=by rw [k1]; kernel_rfl
  have D:Dd u1 c:=by
    refine (dDl k2).trans ((dDl k3).trans ((dDl k4).trans ((dDl k5).trans ((dLg k6).trans ((dLg k7).trans ((dFl k8).trans ?_))))))
    split at k9
    · rw [k9.1]; exact fun _=>⟨rfl,rfl⟩
    · exact FiltT_d k9
  rw [(D (by omega)).2,z1]
section
variable {U:Nat→Prop} {M N:Mem} {w e:Int} {js jd:Nat} {l:List Nat}
theorem Wr.fl {S:Nat→Prop} {f:Nat} (h:Wr S M jd l):Wr S { M with floor:=f } jd l:=⟨h.out,h.bin,h.len,h.ex⟩
theorem wst (W:Ws U M jd l) (hl:l.length≤1000) {v:Nat} {y n:Int} {l':List Nat} (hy:y=(v:Int)) (hv:v<4294967296) (e:wFixed l v n=(0,l')) (s:M.nb[js]?=some (.cells sB 23)) (ns:¬ U js∧js≠jd) {P:Value→Mem→Prop}
    (F:∀ U' N,Ws U' N jd l'→N.nb[js]?=some (.cells sB 23)→¬ U' js∧js≠jd→P (.int .i64 0) N):Cn Try.prog 22 #[PtrB jd,.int .u32 y,.int .i64 n] M P:=by
  refine Cn.mono (c22 W.flw W.dev hy hv n (by omega)) ?_
  rw [e]
  rintro _ N ⟨rfl,C,D⟩
  obtain ⟨U',E,W'⟩:=W.of C D
  have sN:=E.at s ns.1 ns.2
  exact F U' N W' sN.1 ⟨sN.2,ns.2⟩
theorem wsg (W:Ws U M jd l) (hl:l.length≤1000) {l':List Nat} (e:wSigned l 0 5=(0,l')) (s:M.nb[js]?=some (.cells sB 23)) (ns:¬ U js∧js≠jd) {P:Value→Mem→Prop}
    (F:∀ U' N,Ws U' N jd l'→N.nb[js]?=some (.cells sB 23)→¬ U' js∧js≠jd→P (.int .i64 0) N):Cn Try.prog 43 #[PtrB jd,.int .i32 0,.int .i64 5] M P:=by
  refine Cn.mono (c43 W.flw W.dev (v:=0) (by decide) 5 (by omega)) ?_
  rw [e]
  rintro _ N ⟨rfl,C,D⟩
  obtain ⟨U',E,W'⟩:=W.of C D
  have sN:=E.at s ns.1 ns.2
  exact F U' N W' sN.1 ⟨sN.2,ns.2⟩
abbrev l56:List Nat:=[0,1,1] ++ [0,0,0,0,0,0,0,1] ++ [0,0,0,0,0,1,1,1] ++ [1] ++ [0,0,0,0,0,0] ++ List.replicate 30 0
theorem pk56:pack l56=fl7:=by decide
set_option maxHeartbeats 2000000 in
theorem e8_4z (hf:M.floor≤M.nb.size) (s:M.nb[js]?=some (.cells sB 23)):A8_4 (some ⟨2*js,0,none⟩) 40 M fun v _=>v=.bool true:=by
  refine w8_4 (cF rfl (Cn.mono c19 ?_))
  rintro _ M1 ⟨rfl,K1,z1,W1⟩
  have ls:=lt_of_at s
  have W:Ws (fun _=>False) M1 M.nb.size []:=⟨W1.shrink (fun i _ h=>h.elim) fun hu=>hu.elim id fun q=>by omega,fun i hi=>hi.elim False.elim fun q=>by rw [K1.floor]; omega,fb hf K1,fun i hi=>hi.elim⟩
  refine ty rfl (wst W (by decide) (v:=3) (l':=[0,1,1]) rfl (by decide) (by decide) (at_keep s K1) ⟨id,by omega⟩ fun U1 N1 W1 s1 n1=>ty rfl ?_)
  refine wst W1 (by decide) (v:=1) (l':=[0,1,1] ++ [0,0,0,0,0,0,0,1]) rfl (by decide) (by decide) s1 n1 fun U2 N2 W2 s2 n2=>ty rfl ?_
  refine wst W2 (by decide) (v:=7) (l':=[0,1,1] ++ [0,0,0,0,0,0,0,1] ++ [0,0,0,0,0,1,1,1]) rfl (by decide) (by decide) s2 n2 fun U3 N3 W3 s3 n3=>ty rfl ?_
  refine wst W3 (by decide) (v:=1) (l':=[0,1,1] ++ [0,0,0,0,0,0,0,1] ++ [0,0,0,0,0,1,1,1] ++ [1]) rfl (by decide) (by decide) s3 n3 fun U4 N4 W4 s4 n4=>ty rfl ?_
  refine wsg W4 (by decide) (l':=[0,1,1] ++ [0,0,0,0,0,0,0,1] ++ [0,0,0,0,0,1,1,1] ++ [1] ++ [0,0,0,0,0,0]) (by decide) s4 n4 fun U5 N5 W5 s5 n5=>ty rfl ?_
  refine wst W5 (by decide) (v:=0) (l':=l56) rfl (by decide) (by decide) s5 n5 fun U6 N6 W6 s6 n6=>ty rfl ?_
  have KR:=keep_res N6 1
  have zR:=res_size N6 1
  generalize N6.res 1=R at KR zR ⊢
  have sR:=at_keep s6 KR
  refine ad rfl (on (int_of (i:=0) sR rfl) (on (int_of (i:=0+1) sR rfl) ?_))
  have WR:=W6.keep KR
  refine Cn.mono (c28 (M:={ R with floor:=R.nb.size }) WR.dev.fl (Nat.le_refl _)) ?_
  rintro _ N7 ⟨A7,c7,rfl,K7,O7,_⟩
  have K7':=keep_fl K7
  have R7:Row { N7 with floor:=R.floor } A7 (U8 (pack l56)):=O7.row
  refine ty rfl ?_
  generalize ({ N7 with floor:=R.floor }:Mem)=N8 at K7' R7 ⊢
  have T8:=KR.trans K7'
  rw [pk56] at R7
  refine rd2 (M:=N8) (b:=fl7) (w:=64) (e:=32) (fb W6.fs T8) (by decide) R7 (by rw [pk56]) (by decide) (by decide) ?_
  intro h k X N hT KN
  have k4:=fault4 hT
  have T9:=T8.trans KN
  have zN:=KN.size
  have z8:=K7'.size
  refine ty rfl (ty rfl (ty30 h (ty rfl ?_)))
  have hlt:N6.nb.size+0<N.nb.size:=by omega
  have u1:=upd_at (M:=N) (b:=.cells zP.cs 41) hlt
  have C1:=upd_chg (M:=N) (S:=(· = N6.nb.size+0)) (b:=.cells zP.cs 41) (j:=N6.nb.size+0) rfl
  show stP (some 30) h.cs (N.upd (N6.nb.size+0) (.cells zP.cs 41)) (2*(N6.nb.size+0)) 0 _
  generalize N.upd (N6.nb.size+0) (.cells zP.cs 41)=T at u1 C1 ⊢
  refine stA (cs:=h.cs) u1 (by rw [C1.floor,T9.floor]; exact Nat.le_trans W6.fs (Nat.le_refl _)) rfl rfl rfl fun M6 C6 z6 b6=>?_
  have TT:Keep N6 M6:=Keep.step T9 (C1.trans C6) fun i hi=>by omega
  rw [k4]
  have st:=at_keep s6 TT
  refine cF rfl (ad rfl (on (int_of (i:=0) st rfl) (on (int_of (i:=0+1) st rfl) (Cn.mono (c28 (M:={ M6 with floor:=M6.nb.size }) (W6.keep TT).dev.fl (Nat.le_refl _)) ?_))))
  rintro _ Na ⟨Aa,ca,rfl,Ka,Oa,_⟩
  have Ka':=keep_fl Ka
  have Ra:Row { Na with floor:=M6.floor } Aa (U8 (pack l56)):=Oa.row
  refine ty rfl ?_
  generalize ({ Na with floor:=M6.floor }:Mem)=Nb at Ka' Ra ⊢
  rw [pk56] at Ra
  refine Cn.mono (c5k (x:=0) (b:=fl7) (by decide) (fb W6.fs (TT.trans Ka')) Ra (by rw [pk56]) (by decide) (by decide)) ?_
  rintro _ Nc ⟨rfl,Kc⟩
  exact ty rfl (e8_6 (fb W6.fs ((TT.trans Ka').trans Kc)) (at_keep st (Ka'.trans Kc)))
theorem e8_4:∀ (q i:Nat) {M:Mem},i+q=40→M.floor≤M.nb.size→M.nb[js]?=some (.cells sB 23)→A8_4 (some ⟨2*js,0,none⟩) (i:Int) M fun v _=>v=.bool true
  | 0,i,M,hi,hf,s=>by
    obtain rfl:i=40:=by omega
    exact e8_4z hf s
  | q+1,i,M,hi,hf,s=>by
    refine w8_4 (cT (decide_eq_true (by omega)) (Cn.mono (c42 hf (by omega)) ?_))
    rintro _ N ⟨h,X,rfl,G,K,_⟩
    have zK:=K.size
    refine ty rfl (ty30 h (stN (cs:=h.cs) (fb hf K) rfl rfl rfl fun N2 K2 z2 b2=>on30 (hdAt b2) ?_))
    have T2:=K.trans K2
    have s2:=at_keep s T2
    have hb:h.n≤1048576:=by have:=G.2.1; omega
    refine ad rfl (on (int_of (i:=0) s2 rfl) (on (int_of (i:=0+1) s2 rfl) (Cn.mono (c4k (h:=h) (X:=X) (by omega) (fb hf T2) G.1 hb (fun a ha=>.inr ?_) (G.2.2.1.keep K2)) ?_)))
    · have:=(G.2.2.2 a ha).2.2; omega
    rintro _ N3 ⟨rfl,K3⟩
    have z3:=K3.size
    have T3:=T2.trans K3
    refine ty rfl (cF rfl (on30 (hdAt (at_keep b2 K3)) (Cn.mono (c4k (h:=h) (X:=X) (by omega) (fb hf T3) G.1 hb (fun a ha=>.inr ?_) ((G.2.2.1.keep K2).keep K3)) ?_)))
    · have:=(G.2.2.2 a ha).2.2; omega
    rintro _ N4 ⟨rfl,K4⟩
    have T4:=T3.trans K4
    refine ty rfl (w8_5 (cF rfl ?_))
    rw [i64w (by omega)]
    exact e8_4 q (i+1) (by omega) (fb hf T4) (at_keep s T4)
structure Two8 (M:Mem) (A B:Option Addr):Prop where
  a:∀ i:Nat,i<10→∃ p,idxA A 10 2 (i:Int)=some p∧∃ w e,M.intAt .i64 p.block p.off=some w∧M.intAt .i64 p.block (p.off+1)=some e
  b:∀ i:Nat,i<10→∃ p,idxA B 10 1 (i:Int)=some p∧∃ D n c b,M.slAt p.block p.off=some (D,n,c)∧Row M D (U8 b)∧n=b.length∧b.length≤4∧Byt b
theorem cell_keep {M N:Mem} (K:Keep M N) {blk o:Nat} {v:Value} (h:M.cell blk o=some v):N.cell blk o=some v:=by
  have R:Row M (some ⟨blk,o,none⟩) [v]:=fun i hi=>by
    have h0:i=0:=by simp at hi; omega
    subst h0
    exact ⟨_,rfl,h⟩
  obtain ⟨a,e1,e2⟩:=R.keep K 0 (by simp)
  obtain rfl:=Option.some.inj e1
  exact e2
theorem int_keep {M N:Mem} (K:Keep M N) {k:IntKind} {blk o:Nat} {x:Int} (h:M.intAt k blk o=some x):N.intAt k blk o=some x:=by
  unfold Mem.intAt at h ⊢
  obtain ⟨v,h1,h2⟩:=Option.bind_eq_some_iff.1 h
  rw [cell_keep K h1]; exact h2
theorem sl_keep {M N:Mem} (K:Keep M N) {blk o:Nat} {x:Option Addr × Nat × Nat} (h:M.slAt blk o=some x):N.slAt blk o=some x:=by
  unfold Mem.slAt at h ⊢
  obtain ⟨v,h1,h2⟩:=Option.bind_eq_some_iff.1 h
  rw [cell_keep K h1]; exact h2
theorem Two8.keep {A B:Option Addr} (h:Two8 M A B) (K:Keep M N):Two8 N A B:=
  ⟨fun i hi=>by
    obtain ⟨p,e1,w,e,h1,h2⟩:=h.a i hi
    exact ⟨p,e1,w,e,int_keep K h1,int_keep K h2⟩,fun i hi=>by
    obtain ⟨p,e1,D,n,c,b,h1,h2,h3⟩:=h.b i hi
    exact ⟨p,e1,D,n,c,b,sl_keep K h1,h2.keep K,h3⟩⟩
abbrev by4:List Nat:=[127,224,0,0]
theorem e8_2 {A B:Option Addr}:∀ (q i:Nat) {M:Mem},i+q=10→M.floor≤M.nb.size→M.nb[js]?=some (.cells sB 23)→Two8 M A B→A8_2 (some ⟨2*js,0,none⟩) A 10 10 B 10 10 (i:Int) M fun v _=>v=.bool true
  | 0,i,M,hi,hf,s,t=>w8_2 (cF (decide_eq_false (by show ¬ (i:Int)<((10:Nat):Int); omega)) (e8_4 40 0 (by omega) hf s))
  | q+1,i,M,hi,hf,s,t=>by
    obtain ⟨p,e1,w,e,h1,h2⟩:=t.a i (by omega)
    obtain ⟨p',e1',D,n,c,b,g1,g2,g3,g4,g5⟩:=t.b i (by omega)
    refine w8_2 (cT (decide_eq_true (by show (i:Int)<((10:Nat):Int); omega)) (ix e1 (on h1 (on h2 (ix e1' (on g1 (Cn.mono (c3 hf g2 g3 (by omega) g5) ?_)))))))
    rintro _ N ⟨rfl,K⟩
    refine ty rfl (cF rfl (ix e1 (on (int_keep K h1) (on (int_keep K h2) (Cn.mono (c41 (M:={ N with floor:=N.nb.size }) (Nat.le_refl _)) ?_)))))
    rintro _ N2 ⟨rfl,K2⟩
    have K2':=keep_fl K2
    refine ty rfl (ty30 uH ?_)
    generalize ({ N2 with floor:=N.floor }:Mem)=N3 at K2' ⊢
    have T3:=K.trans K2'
    refine Cn.mono (c4k (h:=uH) (X:=[]) (by decide) (fb hf T3) rfl (by decide) (fun a ha=>(by cases ha)) (fun i hi=>(by simp at hi))) ?_
    rintro _ N4 ⟨rfl,K4⟩
    have T4:=T3.trans K4
    refine ty rfl (cF rfl (ix e1 (on (int_keep T4 h1) (on (int_keep T4 h2) ?_))))
    have K5:Keep N4 (N4.new (.cells #[.int .u8 127,.int .u8 224,.int .u8 0,.int .u8 0] 5)):=.new _ _
    have R5:Row (N4.new (.cells #[.int .u8 127,.int .u8 224,.int .u8 0,.int .u8 0] 5)) (some ⟨2*N4.nb.size,0,none⟩) (U8 by4):=Row.new N4 5 [.int .u8 127,.int .u8 224,.int .u8 0,.int .u8 0]
    generalize N4.new (.cells #[.int .u8 127,.int .u8 224,.int .u8 0,.int .u8 0] 5)=N5 at K5 R5 ⊢
    have T5:=T4.trans K5
    refine Cn.mono (c5k (x:=0) (b:=by4) (by decide) (fb hf T5) R5 rfl (by decide) (by decide)) ?_
    rintro _ N6 ⟨rfl,K6⟩
    have T6:=T5.trans K6
    refine ty rfl (w8_3 (cF rfl ?_))
    rw [i64w (by omega)]
    exact e8_2 q (i+1) (by omega) (fb hf T6) (at_keep s T6) (t.keep T6)
end
end Go.Zt
