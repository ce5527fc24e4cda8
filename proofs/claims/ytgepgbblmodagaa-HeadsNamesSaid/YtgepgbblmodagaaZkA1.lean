/- The functions' walks: for each function and each loop a rule of what it comes to. Printed by zw2.py. -/
import Derived.Test.YtgepgbblmodagaaProg
import Derived.Test.YtgepgbblmodagaaZkA0
import Derived.Test.YtgepgbblmodagaaZqT
set_option linter.unusedVariables false
set_option maxRecDepth 100000
namespace Go.Zy
open Go Go.Sim Go.Proofs
def tyZkA10:List Sc:=[.bool,.int .i64,.bool,.bool,.int .i64,.int .i64,.int .i64,.int .i64,.int .i64,.int .i64,.int .i64,.int .i64,.int .i64,.int .i64,.int .i64,.int .i64,.int .i64,.bool,.int .i64,.int .i64,.int .i64,.int .i64,.int .i64,.bool,.int .i64,.int .i64,.sl,.bool,.bool,.bool]
def K17:List (List It × List Nat):=[]
def Z17:List (List Nat × List Nat):=[]
theorem b17:Try.prog.funcs[17]?=some Try.f17∧(Orc.tab Try.prog).lookup 17=none∧Try.f17.body=some (codeOf Try.f17):=⟨by kernel_rfl,by kernel_rfl,by kernel_rfl⟩
theorem w17_0 {M:Mem} {Q:Value→Mem→Prop} (H:
 stP (some 2) #[.int .i64 64,.int .i64 32] (M.new (.cells #[.int .i64 0,.int .i64 0] 23)) (2*M.nb.size) 0 fun M1'=>
 onS (M1'.intAt .i64 (2*M.nb.size) 0) fun x2'=>
 onS (M1'.intAt .i64 (2*M.nb.size) (0+1)) fun x3'=>
 Cn Try.prog 10 #[.agg #[.int .i64 x2',.int .i64 x3']] M1' fun v4' N4'=>
 tyS (asU 2 v4') fun cs5'=>
 tyS (asS (cs5'.getD 0 undef)) fun s6'=>
 tyS (asI .i64 (cs5'.getD 1 undef)) fun x7'=>
 Cn Try.prog 12 #[.slice s6'.1 s6'.2.1 s6'.2.2] N4' fun v8' N8'=>
 tyS (asU 2 v8') fun cs9'=>
 tyS (asA 2 (cs9'.getD 0 undef)) fun cs10'=>
 tyS (asI .i64 (cs10'.getD 0 undef)) fun x11'=>
 tyS (asI .i64 (cs10'.getD 1 undef)) fun x12'=>
 tyS (asI .i64 (cs9'.getD 1 undef)) fun x13'=>
 stP (some 2) #[.int .i64 x11',.int .i64 x12'] (N8'.new (.cells #[.int .i64 0,.int .i64 0] 23)) (2*N8'.nb.size) 0 fun M14'=>
 Cn Try.prog 19 #[] M14' fun v15' N15'=>
 tyS (asP v15') fun p16'=>
 cnd p16'.isNone (
 Q (.bool false) N15') (
 onS (N15'.intAt .i64 (2*M.nb.size) 0) fun x17'=>
 onS (N15'.intAt .i64 (2*M.nb.size) (0+1)) fun x18'=>
 Cn Try.prog 41 #[] { N15' with floor:=N15'.nb.size } fun v19' N19'=>
 tyS (asA 30 v19') fun cs20'=>
 asCellsP tyZkA10 0 cs20' fun vs21'=>
 Cn Try.prog 24 #[.pointer p16',.agg vs21'.toArray,.agg #[.int .i64 x17',.int .i64 x18']] { N19' with floor:=N15'.floor } fun v22' N22'=>
 tyS (asI .i64 v22') fun x23'=>
 Cn Try.prog 28 #[.pointer p16'] N22' fun v24' N24'=>
 tyS (asS v24') fun s25'=>
 Cn Try.prog 31 #[.slice s25'.1 (s25'.2.1) (s25'.2.2)] N24' fun v26' N26'=>
 tyS (asP v26') fun p27'=>
 cnd p27'.isNone (
 Q (.bool false) N26') (
 onS (N26'.intAt .i64 (2*M.nb.size) 0) fun x28'=>
 onS (N26'.intAt .i64 (2*M.nb.size) (0+1)) fun x29'=>
 Cn Try.prog 35 #[.pointer p27',.agg #[.int .i64 x28',.int .i64 x29']] N26' fun v30' N30'=>
 tyS (asU 2 v30') fun cs31'=>
 tyS (asA 30 (cs31'.getD 0 undef)) fun cs32'=>
 asCellsP tyZkA10 0 cs32' fun vs33'=>
 tyS (asI .i64 (cs31'.getD 1 undef)) fun x34'=>
 tyS (asA 30 (.agg vs33'.toArray)) fun cs35'=>
 asCellsP tyZkA10 0 cs35' fun vs36'=>
 stP (some 30) vs36'.toArray (N30'.new (.cells #[.bool false,.int .i64 0,.bool false,.bool false,.int .i64 0,.int .i64 0,.int .i64 0,.int .i64 0,.int .i64 0,.int .i64 0,.int .i64 0,.int .i64 0,.int .i64 0,.int .i64 0,.int .i64 0,.int .i64 0,.int .i64 0,.bool false,.int .i64 0,.int .i64 0,.int .i64 0,.int .i64 0,.int .i64 0,.bool false,.int .i64 0,.int .i64 0,.slice none 0 0,.bool false,.bool false,.bool false] 41)) (2*N30'.nb.size) 0 fun M37'=>
 cnd (x7' == 0) (
 cnd (x13' == 0) (
 onS ((M37'.res 2).intAt .i64 (2*N8'.nb.size) 0) fun x38'=>
 onS ((M37'.res 2).intAt .i64 (2*N8'.nb.size) (0+1)) fun x39'=>
 onS ((M37'.res 2).intAt .i64 (2*M.nb.size) 0) fun x40'=>
 onS ((M37'.res 2).intAt .i64 (2*M.nb.size) (0+1)) fun x41'=>
 puS (binV Try.prog .eql 23 23 (.agg #[.int .i64 x38',.int .i64 x39']) (.agg #[.int .i64 x40',.int .i64 x41'])) fun v42'=>
 tyS (asB v42') fun b43'=>
 cnd b43' (
 Cn Try.prog 16 #[.slice s6'.1 s6'.2.1 s6'.2.2,.slice (some ⟨2*(M37'.nb.size+0),0,none⟩) 2 2] ((M37'.res 2).upd (M37'.nb.size+0) (.cells #[.int .u8 48,.int .u8 32] 5)) fun v44' N44'=>
 tyS (asB v44') fun b45'=>
 cnd b45' (
 cnd (x23' == 0) (
 Cn Try.prog 28 #[.pointer p16'] N44' fun v46' N46'=>
 tyS (asS v46') fun s47'=>
 Cn Try.prog 16 #[.slice s47'.1 (s47'.2.1) (s47'.2.2),.slice (some ⟨2*(M37'.nb.size+1),0,none⟩) 4 4] (N46'.upd (M37'.nb.size+1) (.cells #[.int .u8 127,.int .u8 224,.int .u8 0,.int .u8 0] 5)) fun v48' N48'=>
 tyS (asB v48') fun b49'=>
 cnd b49' (
 cnd (x34' == 0) (
 ldP tyZkA10 N48' (2*N30'.nb.size) 0 fun vs50'=>
 Cn Try.prog 41 #[] { N48' with floor:=N48'.nb.size } fun v51' N51'=>
 tyS (asA 30 v51') fun cs52'=>
 asCellsP tyZkA10 0 cs52' fun vs53'=>
 Cn Try.prog 39 #[.agg vs50'.toArray,.agg vs53'.toArray] { N51' with floor:=N48'.floor } fun v54' N54'=>
 tyS (asB v54') fun b55'=>
 cnd b55' (
 Cn Try.prog 37 #[.pointer p27'] N54' fun v56' N56'=>
 tyS (asI .i64 v56') fun x57'=>
 Q (.bool (x57' == 3)) N56') (
 Q (.bool false) N54')) (
 Q (.bool false) N48')) (
 Q (.bool false) N48')) (
 Q (.bool false) N44')) (
 Q (.bool false) N44')) (
 Q (.bool false) (M37'.res 2))) (
 Q (.bool false) (M37'.res 2))) (
 Q (.bool false) (M37'.res 2))))):
 Cn Try.prog 17 #[] M Q:=
 Cn.mk (cuts:=K17) (sp:=Z17) 900 b17 rfl rfl H fun G=>by kernel_rfl
end Go.Zy
