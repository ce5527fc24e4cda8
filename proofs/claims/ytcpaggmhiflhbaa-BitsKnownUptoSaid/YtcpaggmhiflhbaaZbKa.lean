/- The functions' walks: for each function and each loop a rule of what it comes to. Printed by zw2.py. -/
import Derived.Test.YtcpaggmhiflhbaaProg
import Derived.Test.YtcpaggmhiflhbaaZbA0
import Derived.Test.YtcpaggmhiflhbaaZqT
set_option linter.unusedVariables false
set_option maxRecDepth 100000
namespace Go.Zy
open Go Go.Sim Go.Proofs

/-! ### zoetrope/zoetropelaw01.texts: function 41 -/
def K41 : List (List It × List Nat) := [([.rg [1,1,1,0] 15, .code [1,1,1,1]], [1, 2, 42]), ([.rg [1,1,1,0] 23, .code [1,1,1,1]], [1, 2, 50]), ([.rg [1,1,1,0] 33, .code [1,1,1,1]], [1, 2, 60]), ([.code [1,1,1,1]], [1, 2, 3]), ([.rg [1,1,1,1,0] 15, .code [1,1,1,1,1]], [1, 2, 3, 82]), ([.rg [1,1,1,1,0] 23, .code [1,1,1,1,1]], [1, 2, 3, 90]), ([.rg [1,1,1,1,0] 31, .code [1,1,1,1,1]], [1, 2, 3, 98]), ([.rg [1,1,1,1,0] 39, .code [1,1,1,1,1]], [1, 2, 3, 106]), ([.rg [1,1,1,1,0] 47, .code [1,1,1,1,1]], [1, 2, 3, 114]), ([.rg [1,1,1,1,0] 55, .code [1,1,1,1,1]], [1, 2, 3, 122]), ([.code [1,1,1,1,1]], [1, 2, 3, 4]), ([.rg [1,1,1,1,1,0] 5, .code [1,1,1,1,1,1]], [3, 4, 136]), ([.rg [1,1,1,1,1,0] 8, .code [1,1,1,1,1,1]], [4, 139])]
def Z41 : List (List Nat × List Nat) := [([1,1,1,0], [15, 23, 33, 41]), ([1,1,1,1,0], [15, 23, 31, 39, 47, 55, 65]), ([1,1,1,1,1,0], [5, 8, 11])]
theorem b41 : Try.prog.funcs[41]? = some Try.f41 ∧ (Orc.tab Try.prog).lookup 41 = none ∧ Try.f41.body = some (codeOf Try.f41) := ⟨by kernel_rfl, by kernel_rfl, by kernel_rfl⟩
def A41_1 (x1 x2 x42 : Bool) (M : Mem) (Q : Value → Mem → Prop) : Prop := LvP Try.prog Try.f41 [(1, .bool x1), (2, .bool x2), (42, .bool x42)] [.rg [1,1,1,0] 15, .code [1,1,1,1]] M Q
def A41_2 (x1 x2 x50 : Bool) (M : Mem) (Q : Value → Mem → Prop) : Prop := LvP Try.prog Try.f41 [(1, .bool x1), (2, .bool x2), (50, .bool x50)] [.rg [1,1,1,0] 23, .code [1,1,1,1]] M Q
def A41_3 (x1 x2 x60 : Bool) (M : Mem) (Q : Value → Mem → Prop) : Prop := LvP Try.prog Try.f41 [(1, .bool x1), (2, .bool x2), (60, .bool x60)] [.rg [1,1,1,0] 33, .code [1,1,1,1]] M Q
def A41_4 (x1 x2 x3 : Bool) (M : Mem) (Q : Value → Mem → Prop) : Prop := LvP Try.prog Try.f41 [(1, .bool x1), (2, .bool x2), (3, .bool x3)] [.code [1,1,1,1]] M Q
def A41_5 (x1 x2 x3 x82 : Bool) (M : Mem) (Q : Value → Mem → Prop) : Prop := LvP Try.prog Try.f41 [(1, .bool x1), (2, .bool x2), (3, .bool x3), (82, .bool x82)] [.rg [1,1,1,1,0] 15, .code [1,1,1,1,1]] M Q
def A41_6 (x1 x2 x3 x90 : Bool) (M : Mem) (Q : Value → Mem → Prop) : Prop := LvP Try.prog Try.f41 [(1, .bool x1), (2, .bool x2), (3, .bool x3), (90, .bool x90)] [.rg [1,1,1,1,0] 23, .code [1,1,1,1,1]] M Q
def A41_7 (x1 x2 x3 x98 : Bool) (M : Mem) (Q : Value → Mem → Prop) : Prop := LvP Try.prog Try.f41 [(1, .bool x1), (2, .bool x2), (3, .bool x3), (98, .bool x98)] [.rg [1,1,1,1,0] 31, .code [1,1,1,1,1]] M Q
def A41_8 (x1 x2 x3 x106 : Bool) (M : Mem) (Q : Value → Mem → Prop) : Prop := LvP Try.prog Try.f41 [(1, .bool x1), (2, .bool x2), (3, .bool x3), (106, .bool x106)] [.rg [1,1,1,1,0] 39, .code [1,1,1,1,1]] M Q
def A41_9 (x1 x2 x3 x114 : Bool) (M : Mem) (Q : Value → Mem → Prop) : Prop := LvP Try.prog Try.f41 [(1, .bool x1), (2, .bool x2), (3, .bool x3), (114, .bool x114)] [.rg [1,1,1,1,0] 47, .code [1,1,1,1,1]] M Q
def A41_10 (x1 x2 x3 x122 : Bool) (M : Mem) (Q : Value → Mem → Prop) : Prop := LvP Try.prog Try.f41 [(1, .bool x1), (2, .bool x2), (3, .bool x3), (122, .bool x122)] [.rg [1,1,1,1,0] 55, .code [1,1,1,1,1]] M Q
def A41_11 (x1 x2 x3 x4 : Bool) (M : Mem) (Q : Value → Mem → Prop) : Prop := LvP Try.prog Try.f41 [(1, .bool x1), (2, .bool x2), (3, .bool x3), (4, .bool x4)] [.code [1,1,1,1,1]] M Q
def A41_12 (x3 x4 x136 : Bool) (M : Mem) (Q : Value → Mem → Prop) : Prop := LvP Try.prog Try.f41 [(3, .bool x3), (4, .bool x4), (136, .bool x136)] [.rg [1,1,1,1,1,0] 5, .code [1,1,1,1,1,1]] M Q
def A41_13 (x4 x139 : Bool) (M : Mem) (Q : Value → Mem → Prop) : Prop := LvP Try.prog Try.f41 [(4, .bool x4), (139, .bool x139)] [.rg [1,1,1,1,1,0] 8, .code [1,1,1,1,1,1]] M Q
theorem w41_0 {M : Mem} {Q : Value → Mem → Prop} (H :
    Cn Try.prog 61 #[.int .i64 0, .int .i64 3] (M.new (.cells #[.int .u8 165, .int .u8 128] 5)) fun v1' N1' =>
     tyS (asA 3 v1') fun cs2' =>
     tyS (asI .i64 (cs2'.getD 0 undef)) fun x3' =>
     tyS (asI .i64 (cs2'.getD 1 undef)) fun x4' =>
     tyS (asI .u32 (cs2'.getD 2 undef)) fun x5' =>
     Cn Try.prog 61 #[.int .i64 1, .int .i64 2] N1' fun v6' N6' =>
      tyS (asA 3 v6') fun cs7' =>
      tyS (asI .i64 (cs7'.getD 0 undef)) fun x8' =>
      tyS (asI .i64 (cs7'.getD 1 undef)) fun x9' =>
      tyS (asI .u32 (cs7'.getD 2 undef)) fun x10' =>
      Cn Try.prog 61 #[.int .i64 4, .int .i64 0] N6' fun v11' N11' =>
       tyS (asA 3 v11') fun cs12' =>
       tyS (asI .i64 (cs12'.getD 0 undef)) fun x13' =>
       tyS (asI .i64 (cs12'.getD 1 undef)) fun x14' =>
       tyS (asI .u32 (cs12'.getD 2 undef)) fun x15' =>
       Cn Try.prog 61 #[.int .i64 0, .int .i64 11] N11' fun v16' N16' =>
        tyS (asA 3 v16') fun cs17' =>
        tyS (asI .i64 (cs17'.getD 0 undef)) fun x18' =>
        tyS (asI .i64 (cs17'.getD 1 undef)) fun x19' =>
        tyS (asI .u32 (cs17'.getD 2 undef)) fun x20' =>
        Cn Try.prog 61 #[.int .i64 0, .int .i64 2] N16' fun v21' N21' =>
         tyS (asA 3 v21') fun cs22' =>
         tyS (asI .i64 (cs22'.getD 0 undef)) fun x23' =>
         tyS (asI .i64 (cs22'.getD 1 undef)) fun x24' =>
         tyS (asI .u32 (cs22'.getD 2 undef)) fun x25' =>
         Cn Try.prog 61 #[.int .i64 4, .int .i64 0] N21' fun v26' N26' =>
          tyS (asA 3 v26') fun cs27' =>
          tyS (asI .i64 (cs27'.getD 0 undef)) fun x28' =>
          tyS (asI .i64 (cs27'.getD 1 undef)) fun x29' =>
          tyS (asI .u32 (cs27'.getD 2 undef)) fun x30' =>
          Cn Try.prog 60 #[.slice (some ⟨2 * M.nb.size, 0, none⟩) 2 2, .slice (some ⟨2 * N26'.nb.size, 0, none⟩) 6 6] (N26'.new (.cells #[.int .i64 x3', .int .i64 x4', .int .u32 x5', .int .i64 x8', .int .i64 x9', .int .u32 x10', .int .i64 x13', .int .i64 x14', .int .u32 x15', .int .i64 x18', .int .i64 x19', .int .u32 x20', .int .i64 x23', .int .i64 x24', .int .u32 x25', .int .i64 x28', .int .i64 x29', .int .u32 x30'] 29)) fun v31' N31' =>
           tyS (asS v31') fun s32' =>
           Cn Try.prog 59 #[.slice s32'.1 (s32'.2.1) (s32'.2.2), .slice (some ⟨2 * N31'.nb.size, 0, none⟩) 13 13] (N31'.new (.cells #[.int .i64 5, .int .i64 0, .int .i64 1, .int .i64 0, .int .i64 0, .int .i64 4, .int .i64 0, .int .i64 3, .int .i64 1, .int .i64 0, .int .i64 0, .int .i64 0, .int .i64 8] 3)) fun v33' N33' =>
            tyS (asB v33') fun b34' =>
            Cn Try.prog 61 #[.int .i64 1, .int .i64 3] (N33'.new (.cells #[.int .u8 128] 5)) fun v35' N35' =>
             tyS (asA 3 v35') fun cs36' =>
             tyS (asI .i64 (cs36'.getD 0 undef)) fun x37' =>
             tyS (asI .i64 (cs36'.getD 1 undef)) fun x38' =>
             tyS (asI .u32 (cs36'.getD 2 undef)) fun x39' =>
             Cn Try.prog 61 #[.int .i64 0, .int .i64 8] N35' fun v40' N40' =>
              tyS (asA 3 v40') fun cs41' =>
              tyS (asI .i64 (cs41'.getD 0 undef)) fun x42' =>
              tyS (asI .i64 (cs41'.getD 1 undef)) fun x43' =>
              tyS (asI .u32 (cs41'.getD 2 undef)) fun x44' =>
              Cn Try.prog 61 #[.int .i64 0, .int .i64 0] N40' fun v45' N45' =>
               tyS (asA 3 v45') fun cs46' =>
               tyS (asI .i64 (cs46'.getD 0 undef)) fun x47' =>
               tyS (asI .i64 (cs46'.getD 1 undef)) fun x48' =>
               tyS (asI .u32 (cs46'.getD 2 undef)) fun x49' =>
               Cn Try.prog 61 #[.int .i64 0, .int .i64 1] N45' fun v50' N50' =>
                tyS (asA 3 v50') fun cs51' =>
                tyS (asI .i64 (cs51'.getD 0 undef)) fun x52' =>
                tyS (asI .i64 (cs51'.getD 1 undef)) fun x53' =>
                tyS (asI .u32 (cs51'.getD 2 undef)) fun x54' =>
                Cn Try.prog 61 #[.int .i64 0, .int .i64 33] N50' fun v55' N55' =>
                 tyS (asA 3 v55') fun cs56' =>
                 tyS (asI .i64 (cs56'.getD 0 undef)) fun x57' =>
                 tyS (asI .i64 (cs56'.getD 1 undef)) fun x58' =>
                 tyS (asI .u32 (cs56'.getD 2 undef)) fun x59' =>
                 Cn Try.prog 61 #[.int .i64 1, .int .i64 32] N55' fun v60' N60' =>
                  tyS (asA 3 v60') fun cs61' =>
                  tyS (asI .i64 (cs61'.getD 0 undef)) fun x62' =>
                  tyS (asI .i64 (cs61'.getD 1 undef)) fun x63' =>
                  tyS (asI .u32 (cs61'.getD 2 undef)) fun x64' =>
                  Cn Try.prog 61 #[.int .i64 1, .int .i64 0] N60' fun v65' N65' =>
                   tyS (asA 3 v65') fun cs66' =>
                   tyS (asI .i64 (cs66'.getD 0 undef)) fun x67' =>
                   tyS (asI .i64 (cs66'.getD 1 undef)) fun x68' =>
                   tyS (asI .u32 (cs66'.getD 2 undef)) fun x69' =>
                   Cn Try.prog 60 #[.slice (some ⟨2 * N33'.nb.size, 0, none⟩) 1 1, .slice (some ⟨2 * N65'.nb.size, 0, none⟩) 7 7] (N65'.new (.cells #[.int .i64 x37', .int .i64 x38', .int .u32 x39', .int .i64 x42', .int .i64 x43', .int .u32 x44', .int .i64 x47', .int .i64 x48', .int .u32 x49', .int .i64 x52', .int .i64 x53', .int .u32 x54', .int .i64 x57', .int .i64 x58', .int .u32 x59', .int .i64 x62', .int .i64 x63', .int .u32 x64', .int .i64 x67', .int .i64 x68', .int .u32 x69'] 29)) fun v70' N70' =>
                    tyS (asS v70') fun s71' =>
                    Cn Try.prog 59 #[.slice s71'.1 (s71'.2.1) (s71'.2.2), .slice (some ⟨2 * N70'.nb.size, 0, none⟩) 15 15] (N70'.new (.cells #[.int .i64 0, .int .i64 4, .int .i64 128, .int .i64 0, .int .i64 0, .int .i64 0, .int .i64 0, .int .i64 3, .int .i64 0, .int .i64 2, .int .i64 0, .int .i64 2, .int .i64 0, .int .i64 2, .int .i64 0] 3)) fun v72' N72' =>
                     tyS (asB v72') fun b73' =>
                     Cn Try.prog 61 #[.int .i64 2, .int .i64 0] (N72'.new (.cells #[.int .u8 0, .int .u8 0, .int .u8 0, .int .u8 0] 5)) fun v74' N74' =>
                      tyS (asA 3 v74') fun cs75' =>
                      tyS (asI .i64 (cs75'.getD 0 undef)) fun x76' =>
                      tyS (asI .i64 (cs75'.getD 1 undef)) fun x77' =>
                      tyS (asI .u32 (cs75'.getD 2 undef)) fun x78' =>
                      Cn Try.prog 60 #[.slice (some ⟨2 * N72'.nb.size, 0, none⟩) 4 4, .slice (some ⟨2 * N74'.nb.size, 0, none⟩) 1 1] (N74'.new (.cells #[.int .i64 x76', .int .i64 x77', .int .u32 x78'] 29)) fun v79' N79' =>
                       tyS (asS v79') fun s80' =>
                       Cn Try.prog 59 #[.slice s80'.1 (s80'.2.1) (s80'.2.2), .slice (some ⟨2 * N79'.nb.size, 0, none⟩) 3 3] (N79'.new (.cells #[.int .i64 0, .int .i64 4, .int .i64 32] 3)) fun v81' N81' =>
                        tyS (asB v81') fun b82' =>
                        cnd b82' (
                         Cn Try.prog 61 #[.int .i64 2, .int .i64 0] (N81'.new (.cells #[.int .u8 0, .int .u8 0, .int .u8 0, .int .u8 1] 5)) fun v83' N83' =>
                          tyS (asA 3 v83') fun cs84' =>
                          tyS (asI .i64 (cs84'.getD 0 undef)) fun x85' =>
                          tyS (asI .i64 (cs84'.getD 1 undef)) fun x86' =>
                          tyS (asI .u32 (cs84'.getD 2 undef)) fun x87' =>
                          Cn Try.prog 60 #[.slice (some ⟨2 * N81'.nb.size, 0, none⟩) 4 4, .slice (some ⟨2 * N83'.nb.size, 0, none⟩) 1 1] (N83'.new (.cells #[.int .i64 x85', .int .i64 x86', .int .u32 x87'] 29)) fun v88' N88' =>
                           tyS (asS v88') fun s89' =>
                           Cn Try.prog 59 #[.slice s89'.1 (s89'.2.1) (s89'.2.2), .slice (some ⟨2 * N88'.nb.size, 0, none⟩) 3 3] (N88'.new (.cells #[.int .i64 0, .int .i64 3, .int .i64 32] 3)) fun v90' N90' =>
                            tyS (asB v90') fun b91' =>
                            A41_1 b34' b73' b91' N90' Q) (
                         A41_1 b34' b73' false N81' Q)) :
    Cn Try.prog 41 #[] M Q :=
  Cn.mk (cuts := K41) (sp := Z41) 900 b41 rfl rfl H fun G => by kernel_rfl

theorem w41_1 {x1 x2 x42 : Bool} {M : Mem} {Q : Value → Mem → Prop} (H :
    cnd x42 (
     Cn Try.prog 61 #[.int .i64 2, .int .i64 0] (M.new (.cells #[.int .u8 0] 5)) fun v92' N92' =>
      tyS (asA 3 v92') fun cs93' =>
      tyS (asI .i64 (cs93'.getD 0 undef)) fun x94' =>
      tyS (asI .i64 (cs93'.getD 1 undef)) fun x95' =>
      tyS (asI .u32 (cs93'.getD 2 undef)) fun x96' =>
      Cn Try.prog 60 #[.slice (some ⟨2 * M.nb.size, 0, none⟩) 1 1, .slice (some ⟨2 * N92'.nb.size, 0, none⟩) 1 1] (N92'.new (.cells #[.int .i64 x94', .int .i64 x95', .int .u32 x96'] 29)) fun v97' N97' =>
       tyS (asS v97') fun s98' =>
       Cn Try.prog 59 #[.slice s98'.1 (s98'.2.1) (s98'.2.2), .slice (some ⟨2 * N97'.nb.size, 0, none⟩) 3 3] (N97'.new (.cells #[.int .i64 0, .int .i64 3, .int .i64 8] 3)) fun v99' N99' =>
        tyS (asB v99') fun b100' =>
        A41_2 x1 x2 b100' N99' Q) (
     A41_2 x1 x2 false M Q)) :
    A41_1 x1 x2 x42 M Q :=
  LvP.mk (cuts := K41) (sp := Z41) 900 H fun G => by kernel_rfl

theorem w41_2 {x1 x2 x50 : Bool} {M : Mem} {Q : Value → Mem → Prop} (H :
    cnd x50 (
     Cn Try.prog 61 #[.int .i64 2, .int .i64 0] (M.new (.cells #[.int .u8 80] 5)) fun v101' N101' =>
      tyS (asA 3 v101') fun cs102' =>
      tyS (asI .i64 (cs102'.getD 0 undef)) fun x103' =>
      tyS (asI .i64 (cs102'.getD 1 undef)) fun x104' =>
      tyS (asI .u32 (cs102'.getD 2 undef)) fun x105' =>
      Cn Try.prog 61 #[.int .i64 2, .int .i64 0] N101' fun v106' N106' =>
       tyS (asA 3 v106') fun cs107' =>
       tyS (asI .i64 (cs107'.getD 0 undef)) fun x108' =>
       tyS (asI .i64 (cs107'.getD 1 undef)) fun x109' =>
       tyS (asI .u32 (cs107'.getD 2 undef)) fun x110' =>
       Cn Try.prog 61 #[.int .i64 2, .int .i64 0] N106' fun v111' N111' =>
        tyS (asA 3 v111') fun cs112' =>
        tyS (asI .i64 (cs112'.getD 0 undef)) fun x113' =>
        tyS (asI .i64 (cs112'.getD 1 undef)) fun x114' =>
        tyS (asI .u32 (cs112'.getD 2 undef)) fun x115' =>
        Cn Try.prog 60 #[.slice (some ⟨2 * M.nb.size, 0, none⟩) 1 1, .slice (some ⟨2 * N111'.nb.size, 0, none⟩) 3 3] (N111'.new (.cells #[.int .i64 x103', .int .i64 x104', .int .u32 x105', .int .i64 x108', .int .i64 x109', .int .u32 x110', .int .i64 x113', .int .i64 x114', .int .u32 x115'] 29)) fun v116' N116' =>
         tyS (asS v116') fun s117' =>
         Cn Try.prog 59 #[.slice s117'.1 (s117'.2.1) (s117'.2.2), .slice (some ⟨2 * N116'.nb.size, 0, none⟩) 7 7] (N116'.new (.cells #[.int .i64 1, .int .i64 0, .int .i64 0, .int .i64 0, .int .i64 0, .int .i64 3, .int .i64 4] 3)) fun v118' N118' =>
          tyS (asB v118') fun b119' =>
          A41_3 x1 x2 b119' N118' Q) (
     A41_3 x1 x2 false M Q)) :
    A41_2 x1 x2 x50 M Q :=
  LvP.mk (cuts := K41) (sp := Z41) 900 H fun G => by kernel_rfl

theorem w41_3 {x1 x2 x60 : Bool} {M : Mem} {Q : Value → Mem → Prop} (H :
    cnd x60 (
     Cn Try.prog 61 #[.int .i64 2, .int .i64 0] (M.new (.cells #[.int .u8 0, .int .u8 0, .int .u8 0, .int .u8 1, .int .u8 255, .int .u8 255, .int .u8 255, .int .u8 255] 5)) fun v120' N120' =>
      tyS (asA 3 v120') fun cs121' =>
      tyS (asI .i64 (cs121'.getD 0 undef)) fun x122' =>
      tyS (asI .i64 (cs121'.getD 1 undef)) fun x123' =>
      tyS (asI .u32 (cs121'.getD 2 undef)) fun x124' =>
      Cn Try.prog 60 #[.slice (some ⟨2 * M.nb.size, 0, none⟩) 8 8, .slice (some ⟨2 * N120'.nb.size, 0, none⟩) 1 1] (N120'.new (.cells #[.int .i64 x122', .int .i64 x123', .int .u32 x124'] 29)) fun v125' N125' =>
       tyS (asS v125') fun s126' =>
       Cn Try.prog 59 #[.slice s126'.1 (s126'.2.1) (s126'.2.2), .slice (some ⟨2 * N125'.nb.size, 0, none⟩) 3 3] (N125'.new (.cells #[.int .i64 4294967294, .int .i64 0, .int .i64 1] 3)) fun v127' N127' =>
        tyS (asB v127') fun b128' =>
        A41_4 x1 x2 b128' N127' Q) (
     A41_4 x1 x2 false M Q)) :
    A41_3 x1 x2 x60 M Q :=
  LvP.mk (cuts := K41) (sp := Z41) 900 H fun G => by kernel_rfl

theorem w41_4 {x1 x2 x3 : Bool} {M : Mem} {Q : Value → Mem → Prop} (H :
    Cn Try.prog 61 #[.int .i64 3, .int .i64 0] (M.new (.cells #[.int .u8 172, .int .u8 2] 5)) fun v129' N129' =>
     tyS (asA 3 v129') fun cs130' =>
     tyS (asI .i64 (cs130'.getD 0 undef)) fun x131' =>
     tyS (asI .i64 (cs130'.getD 1 undef)) fun x132' =>
     tyS (asI .u32 (cs130'.getD 2 undef)) fun x133' =>
     Cn Try.prog 60 #[.slice (some ⟨2 * M.nb.size, 0, none⟩) 2 2, .slice (some ⟨2 * N129'.nb.size, 0, none⟩) 1 1] (N129'.new (.cells #[.int .i64 x131', .int .i64 x132', .int .u32 x133'] 29)) fun v134' N134' =>
      tyS (asS v134') fun s135' =>
      Cn Try.prog 59 #[.slice s135'.1 (s135'.2.1) (s135'.2.2), .slice (some ⟨2 * N134'.nb.size, 0, none⟩) 3 3] (N134'.new (.cells #[.int .i64 300, .int .i64 0, .int .i64 0] 3)) fun v136' N136' =>
       tyS (asB v136') fun b137' =>
       cnd b137' (
        Cn Try.prog 61 #[.int .i64 3, .int .i64 0] (N136'.new (.cells #[.int .u8 128, .int .u8 0] 5)) fun v138' N138' =>
         tyS (asA 3 v138') fun cs139' =>
         tyS (asI .i64 (cs139'.getD 0 undef)) fun x140' =>
         tyS (asI .i64 (cs139'.getD 1 undef)) fun x141' =>
         tyS (asI .u32 (cs139'.getD 2 undef)) fun x142' =>
         Cn Try.prog 60 #[.slice (some ⟨2 * N136'.nb.size, 0, none⟩) 2 2, .slice (some ⟨2 * N138'.nb.size, 0, none⟩) 1 1] (N138'.new (.cells #[.int .i64 x140', .int .i64 x141', .int .u32 x142'] 29)) fun v143' N143' =>
          tyS (asS v143') fun s144' =>
          Cn Try.prog 59 #[.slice s144'.1 (s144'.2.1) (s144'.2.2), .slice (some ⟨2 * N143'.nb.size, 0, none⟩) 3 3] (N143'.new (.cells #[.int .i64 0, .int .i64 4, .int .i64 16] 3)) fun v145' N145' =>
           tyS (asB v145') fun b146' =>
           A41_5 x1 x2 x3 b146' N145' Q) (
        A41_5 x1 x2 x3 false N136' Q)) :
    A41_4 x1 x2 x3 M Q :=
  LvP.mk (cuts := K41) (sp := Z41) 900 H fun G => by kernel_rfl

theorem w41_5 {x1 x2 x3 x82 : Bool} {M : Mem} {Q : Value → Mem → Prop} (H :
    cnd x82 (
     Cn Try.prog 61 #[.int .i64 3, .int .i64 0] (M.new (.cells #[.int .u8 255, .int .u8 255, .int .u8 255, .int .u8 255, .int .u8 15] 5)) fun v147' N147' =>
      tyS (asA 3 v147') fun cs148' =>
      tyS (asI .i64 (cs148'.getD 0 undef)) fun x149' =>
      tyS (asI .i64 (cs148'.getD 1 undef)) fun x150' =>
      tyS (asI .u32 (cs148'.getD 2 undef)) fun x151' =>
      Cn Try.prog 60 #[.slice (some ⟨2 * M.nb.size, 0, none⟩) 5 5, .slice (some ⟨2 * N147'.nb.size, 0, none⟩) 1 1] (N147'.new (.cells #[.int .i64 x149', .int .i64 x150', .int .u32 x151'] 29)) fun v152' N152' =>
       tyS (asS v152') fun s153' =>
       Cn Try.prog 59 #[.slice s153'.1 (s153'.2.1) (s153'.2.2), .slice (some ⟨2 * N152'.nb.size, 0, none⟩) 3 3] (N152'.new (.cells #[.int .i64 4294967295, .int .i64 0, .int .i64 0] 3)) fun v154' N154' =>
        tyS (asB v154') fun b155' =>
        A41_6 x1 x2 x3 b155' N154' Q) (
     A41_6 x1 x2 x3 false M Q)) :
    A41_5 x1 x2 x3 x82 M Q :=
  LvP.mk (cuts := K41) (sp := Z41) 900 H fun G => by kernel_rfl

theorem w41_6 {x1 x2 x3 x90 : Bool} {M : Mem} {Q : Value → Mem → Prop} (H :
    cnd x90 (
     Cn Try.prog 61 #[.int .i64 3, .int .i64 0] (M.new (.cells #[.int .u8 255, .int .u8 255, .int .u8 255, .int .u8 255, .int .u8 31] 5)) fun v156' N156' =>
      tyS (asA 3 v156') fun cs157' =>
      tyS (asI .i64 (cs157'.getD 0 undef)) fun x158' =>
      tyS (asI .i64 (cs157'.getD 1 undef)) fun x159' =>
      tyS (asI .u32 (cs157'.getD 2 undef)) fun x160' =>
      Cn Try.prog 60 #[.slice (some ⟨2 * M.nb.size, 0, none⟩) 5 5, .slice (some ⟨2 * N156'.nb.size, 0, none⟩) 1 1] (N156'.new (.cells #[.int .i64 x158', .int .i64 x159', .int .u32 x160'] 29)) fun v161' N161' =>
       tyS (asS v161') fun s162' =>
       Cn Try.prog 59 #[.slice s162'.1 (s162'.2.1) (s162'.2.2), .slice (some ⟨2 * N161'.nb.size, 0, none⟩) 3 3] (N161'.new (.cells #[.int .i64 0, .int .i64 4, .int .i64 40] 3)) fun v163' N163' =>
        tyS (asB v163') fun b164' =>
        A41_7 x1 x2 x3 b164' N163' Q) (
     A41_7 x1 x2 x3 false M Q)) :
    A41_6 x1 x2 x3 x90 M Q :=
  LvP.mk (cuts := K41) (sp := Z41) 900 H fun G => by kernel_rfl

theorem w41_7 {x1 x2 x3 x98 : Bool} {M : Mem} {Q : Value → Mem → Prop} (H :
    cnd x98 (
     Cn Try.prog 61 #[.int .i64 3, .int .i64 0] (M.new (.cells #[.int .u8 255, .int .u8 255, .int .u8 255, .int .u8 255, .int .u8 143] 5)) fun v165' N165' =>
      tyS (asA 3 v165') fun cs166' =>
      tyS (asI .i64 (cs166'.getD 0 undef)) fun x167' =>
      tyS (asI .i64 (cs166'.getD 1 undef)) fun x168' =>
      tyS (asI .u32 (cs166'.getD 2 undef)) fun x169' =>
      Cn Try.prog 60 #[.slice (some ⟨2 * M.nb.size, 0, none⟩) 5 5, .slice (some ⟨2 * N165'.nb.size, 0, none⟩) 1 1] (N165'.new (.cells #[.int .i64 x167', .int .i64 x168', .int .u32 x169'] 29)) fun v170' N170' =>
       tyS (asS v170') fun s171' =>
       Cn Try.prog 59 #[.slice s171'.1 (s171'.2.1) (s171'.2.2), .slice (some ⟨2 * N170'.nb.size, 0, none⟩) 3 3] (N170'.new (.cells #[.int .i64 0, .int .i64 4, .int .i64 40] 3)) fun v172' N172' =>
        tyS (asB v172') fun b173' =>
        A41_8 x1 x2 x3 b173' N172' Q) (
     A41_8 x1 x2 x3 false M Q)) :
    A41_7 x1 x2 x3 x98 M Q :=
  LvP.mk (cuts := K41) (sp := Z41) 900 H fun G => by kernel_rfl

theorem w41_8 {x1 x2 x3 x106 : Bool} {M : Mem} {Q : Value → Mem → Prop} (H :
    cnd x106 (
     Cn Try.prog 61 #[.int .i64 3, .int .i64 0] (M.new (.cells #[.int .u8 128] 5)) fun v174' N174' =>
      tyS (asA 3 v174') fun cs175' =>
      tyS (asI .i64 (cs175'.getD 0 undef)) fun x176' =>
      tyS (asI .i64 (cs175'.getD 1 undef)) fun x177' =>
      tyS (asI .u32 (cs175'.getD 2 undef)) fun x178' =>
      Cn Try.prog 60 #[.slice (some ⟨2 * M.nb.size, 0, none⟩) 1 1, .slice (some ⟨2 * N174'.nb.size, 0, none⟩) 1 1] (N174'.new (.cells #[.int .i64 x176', .int .i64 x177', .int .u32 x178'] 29)) fun v179' N179' =>
       tyS (asS v179') fun s180' =>
       Cn Try.prog 59 #[.slice s180'.1 (s180'.2.1) (s180'.2.2), .slice (some ⟨2 * N179'.nb.size, 0, none⟩) 3 3] (N179'.new (.cells #[.int .i64 0, .int .i64 3, .int .i64 8] 3)) fun v181' N181' =>
        tyS (asB v181') fun b182' =>
        A41_9 x1 x2 x3 b182' N181' Q) (
     A41_9 x1 x2 x3 false M Q)) :
    A41_8 x1 x2 x3 x106 M Q :=
  LvP.mk (cuts := K41) (sp := Z41) 900 H fun G => by kernel_rfl

theorem w41_9 {x1 x2 x3 x114 : Bool} {M : Mem} {Q : Value → Mem → Prop} (H :
    cnd x114 (
     Cn Try.prog 61 #[.int .i64 3, .int .i64 0] (M.new (.cells #[.int .u8 0] 5)) fun v183' N183' =>
      tyS (asA 3 v183') fun cs184' =>
      tyS (asI .i64 (cs184'.getD 0 undef)) fun x185' =>
      tyS (asI .i64 (cs184'.getD 1 undef)) fun x186' =>
      tyS (asI .u32 (cs184'.getD 2 undef)) fun x187' =>
      Cn Try.prog 60 #[.slice (some ⟨2 * M.nb.size, 0, none⟩) 1 1, .slice (some ⟨2 * N183'.nb.size, 0, none⟩) 1 1] (N183'.new (.cells #[.int .i64 x185', .int .i64 x186', .int .u32 x187'] 29)) fun v188' N188' =>
       tyS (asS v188') fun s189' =>
       Cn Try.prog 59 #[.slice s189'.1 (s189'.2.1) (s189'.2.2), .slice (some ⟨2 * N188'.nb.size, 0, none⟩) 3 3] (N188'.new (.cells #[.int .i64 0, .int .i64 0, .int .i64 0] 3)) fun v190' N190' =>
        tyS (asB v190') fun b191' =>
        A41_10 x1 x2 x3 b191' N190' Q) (
     A41_10 x1 x2 x3 false M Q)) :
    A41_9 x1 x2 x3 x114 M Q :=
  LvP.mk (cuts := K41) (sp := Z41) 900 H fun G => by kernel_rfl

theorem w41_10 {x1 x2 x3 x122 : Bool} {M : Mem} {Q : Value → Mem → Prop} (H :
    cnd x122 (
     Cn Try.prog 61 #[.int .i64 0, .int .i64 1] (M.new (.cells #[.int .u8 1, .int .u8 2] 5)) fun v192' N192' =>
      tyS (asA 3 v192') fun cs193' =>
      tyS (asI .i64 (cs193'.getD 0 undef)) fun x194' =>
      tyS (asI .i64 (cs193'.getD 1 undef)) fun x195' =>
      tyS (asI .u32 (cs193'.getD 2 undef)) fun x196' =>
      Cn Try.prog 61 #[.int .i64 3, .int .i64 0] N192' fun v197' N197' =>
       tyS (asA 3 v197') fun cs198' =>
       tyS (asI .i64 (cs198'.getD 0 undef)) fun x199' =>
       tyS (asI .i64 (cs198'.getD 1 undef)) fun x200' =>
       tyS (asI .u32 (cs198'.getD 2 undef)) fun x201' =>
       Cn Try.prog 61 #[.int .i64 4, .int .i64 0] N197' fun v202' N202' =>
        tyS (asA 3 v202') fun cs203' =>
        tyS (asI .i64 (cs203'.getD 0 undef)) fun x204' =>
        tyS (asI .i64 (cs203'.getD 1 undef)) fun x205' =>
        tyS (asI .u32 (cs203'.getD 2 undef)) fun x206' =>
        Cn Try.prog 60 #[.slice (some ⟨2 * M.nb.size, 0, none⟩) 2 2, .slice (some ⟨2 * N202'.nb.size, 0, none⟩) 3 3] (N202'.new (.cells #[.int .i64 x194', .int .i64 x195', .int .u32 x196', .int .i64 x199', .int .i64 x200', .int .u32 x201', .int .i64 x204', .int .i64 x205', .int .u32 x206'] 29)) fun v207' N207' =>
         tyS (asS v207') fun s208' =>
         Cn Try.prog 59 #[.slice s208'.1 (s208'.2.1) (s208'.2.2), .slice (some ⟨2 * N207'.nb.size, 0, none⟩) 7 7] (N207'.new (.cells #[.int .i64 0, .int .i64 0, .int .i64 0, .int .i64 2, .int .i64 0, .int .i64 4, .int .i64 15] 3)) fun v209' N209' =>
          tyS (asB v209') fun b210' =>
          A41_11 x1 x2 x3 b210' N209' Q) (
     A41_11 x1 x2 x3 false M Q)) :
    A41_10 x1 x2 x3 x122 M Q :=
  LvP.mk (cuts := K41) (sp := Z41) 900 H fun G => by kernel_rfl

theorem w41_11 {x1 x2 x3 x4 : Bool} {M : Mem} {Q : Value → Mem → Prop} (H :
    cnd x1 (
     A41_12 x3 x4 x2 M Q) (
     A41_12 x3 x4 false M Q)) :
    A41_11 x1 x2 x3 x4 M Q :=
  LvP.mk (cuts := K41) (sp := Z41) 900 H fun G => by kernel_rfl

theorem w41_12 {x3 x4 x136 : Bool} {M : Mem} {Q : Value → Mem → Prop} (H :
    cnd x136 (
     A41_13 x4 x3 M Q) (
     A41_13 x4 false M Q)) :
    A41_12 x3 x4 x136 M Q :=
  LvP.mk (cuts := K41) (sp := Z41) 900 H fun G => by kernel_rfl

theorem w41_13 {x4 x139 : Bool} {M : Mem} {Q : Value → Mem → Prop} (H :
    cnd x139 (
     Q (.bool x4) M) (
     Q (.bool false) M)) :
    A41_13 x4 x139 M Q :=
  LvP.mk (cuts := K41) (sp := Z41) 900 H fun G => by kernel_rfl


/-! ### zoetrope/zoetropelaw01.told: function 60 -/
def K60 : List (List It × List Nat) := [([.code [1,1,1,0,1,0,0], .lp [1,1,1,0,1,0,0], .blk 0, .code [1,1,1,1]], [1, 5, 6, 7])]
def Z60 : List (List Nat × List Nat) := []
theorem b60 : Try.prog.funcs[60]? = some Try.f60 ∧ (Orc.tab Try.prog).lookup 60 = none ∧ Try.f60.body = some (codeOf Try.f60) := ⟨by kernel_rfl, by kernel_rfl, by kernel_rfl⟩
def A60_1 (Ax1 : Option Addr) (lx1 cx1 : Nat) (x5 Ax6 : Option Addr) (lx6 cx6 : Nat) (x7 : Int) (M : Mem) (Q : Value → Mem → Prop) : Prop := LvP Try.prog Try.f60 [(1, .slice Ax1 lx1 cx1), (5, .pointer x5), (6, .slice Ax6 lx6 cx6), (7, .int .i64 x7)] [.code [1,1,1,0,1,0,0], .lp [1,1,1,0,1,0,0], .blk 0, .code [1,1,1,1]] M Q
theorem w60_0 {Ax0 : Option Addr} {lx0 cx0 : Nat} {Ax1 : Option Addr} {lx1 cx1 : Nat} {M : Mem} {Q : Value → Mem → Prop} (H :
    Cn Try.prog 22 #[.slice Ax0 lx0 cx0] M fun v1' N1' =>
     tyS (asP v1') fun p2' =>
     A60_1 Ax1 lx1 cx1 p2' none 0 0 0 N1' Q) :
    Cn Try.prog 60 #[.slice Ax0 lx0 cx0, .slice Ax1 lx1 cx1] M Q :=
  Cn.mk (cuts := K60) (sp := Z60) 900 b60 rfl rfl H fun G => by kernel_rfl

theorem w60_1 {Ax1 : Option Addr} {lx1 cx1 : Nat} {x5 Ax6 : Option Addr} {lx6 cx6 : Nat} {x7 : Int} {M : Mem} {Q : Value → Mem → Prop} (H :
    cnd (decide (x7 < ((lx1 : Int)))) (
     ixS (idxA Ax1 lx1 3 x7) fun a3' =>
     onS (M.intAt .i64 a3'.block a3'.off) fun x4' =>
     onS (M.intAt .i64 a3'.block (a3'.off + 1)) fun x5' =>
     onS (M.intAt .u32 a3'.block (a3'.off + 2)) fun x6' =>
     Cn Try.prog 23 #[.pointer x5, .agg #[.int .i64 x4', .int .i64 x5', .int .u32 x6']] M fun v7' N7' =>
      tyS (asU 2 v7') fun cs8' =>
      tyS (asI .u32 (cs8'.getD 0 undef)) fun x9' =>
      tyS (asI .i64 (cs8'.getD 1 undef)) fun x10' =>
      meS (appendP Try.prog #[61, 61] (.slice Ax6 lx6 cx6) (.slice (some ⟨2 * N7'.nb.size, 0, none⟩) 2 2) (N7'.new (.cells #[.int .i64 (IntKind.i64.wrap (x9')), .int .i64 x10'] 3))) fun r11' =>
      tyS (asS r11'.1) fun s12' =>
      A60_1 Ax1 lx1 cx1 x5 s12'.1 s12'.2.1 s12'.2.2 (IntKind.i64.wrap (x7 + 1)) r11'.2 Q) (
     Cn Try.prog 24 #[.pointer x5] M fun v13' N13' =>
      tyS (asI .i64 v13') fun x14' =>
      meS (appendP Try.prog #[61, 61] (.slice Ax6 lx6 cx6) (.slice (some ⟨2 * N13'.nb.size, 0, none⟩) 1 1) (N13'.new (.cells #[.int .i64 x14'] 3))) fun r15' =>
      tyS (asS r15'.1) fun s16' =>
      Q (.slice s16'.1 (s16'.2.1) (s16'.2.2)) r15'.2)) :
    A60_1 Ax1 lx1 cx1 x5 Ax6 lx6 cx6 x7 M Q :=
  LvP.mk (cuts := K60) (sp := Z60) 900 H fun G => by kernel_rfl


end Go.Zy
