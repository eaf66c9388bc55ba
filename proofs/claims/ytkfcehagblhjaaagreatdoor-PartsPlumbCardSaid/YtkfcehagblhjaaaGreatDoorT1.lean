import Derived.Test.YtkfcehagblhjaaaGreatDoorA39
import Derived.Test.YtkfcehagblhjaaaGreatDoorA41
import Derived.Test.YtkfcehagblhjaaaGreatDoorA50
import Derived.Test.YtkfcehagblhjaaaGreatDoorA64
import Derived.Test.YtkfcehagblhjaaaGreatDoorA17
import Derived.Lib.ItoaNum
import Derived.Test.YtkfcehagblhjaaaGreatDoorProg
set_option linter.unusedVariables false
set_option linter.unusedSimpArgs false
set_option linter.defProp false
namespace Go.Abs.U54
open Go.RowKit Go.Proofs
abbrev Str:=List UInt8
def tab:List (Nat×TI):=[
 (2,⟨.int .i64,1,8,some [.int .i64 0]⟩),
 (3,⟨.int .i64,1,8,some [.int .i64 0]⟩),
 (4,⟨.bool,1,1,some [.bool false]⟩),
 (5,⟨.int .u8,1,1,some [.int .u8 0]⟩),
 (6,⟨.int .u8,1,1,some [.int .u8 0]⟩),
 (7,⟨.strct [(0,1),(1,1),(2,1),(3,1)],4,24,some [.int .i64 0,.int .i64 0,.bool false,.int .u8 0]⟩),
 (8,⟨.strct [(0,1),(1,1),(2,1),(3,1)],4,24,some [.int .i64 0,.int .i64 0,.bool false,.int .u8 0]⟩),
 (9,⟨.str,1,16,some [.str []]⟩),
 (10,⟨.str,1,16,some [.str []]⟩),
 (11,⟨.str,1,16,some [.str []]⟩),
 (12,⟨.int .u64,1,8,some [.int .u64 0]⟩),
 (13,⟨.strct [(0,1),(1,1)],2,24,some [.str [],.int .u64 0]⟩),
 (14,⟨.strct [(0,1),(1,1)],2,24,some [.str [],.int .u64 0]⟩),
 (15,⟨.ptr 426,1,8,some [.nilp]⟩),
 (16,⟨.ptr 429,1,8,some [.nilp]⟩),
 (17,⟨.ptr 436,1,8,some [.nilp]⟩),
 (18,⟨.strct [(0,1)],1,8,some [.nilp]⟩),
 (19,⟨.strct [(0,1)],1,8,some [.nilp]⟩),
 (20,⟨.iface,1,16,some [.nil]⟩),
 (21,⟨.int .i32,1,4,some [.int .i32 0]⟩),
 (22,⟨.slice 137,1,24,some [.slice []]⟩),
 (23,⟨.strct [(0,1),(1,1),(2,1),(3,1),(4,1),(5,1)],6,104,some [.str [],.str [],.str [],.str [],.slice [],.str []]⟩),
 (24,⟨.strct [(0,1),(1,1),(2,1),(3,1),(4,1),(5,1)],6,104,some [.str [],.str [],.str [],.str [],.slice [],.str []]⟩),
 (26,⟨.int .i64,1,8,some [.int .i64 0]⟩),
 (29,⟨.slice 155,1,24,some [.slice []]⟩),
 (30,⟨.slice 83,1,24,some [.slice []]⟩),
 (31,⟨.strct [(0,1),(1,1)],2,48,some [.slice [],.slice []]⟩),
 (32,⟨.strct [(0,1),(1,1)],2,48,some [.slice [],.slice []]⟩),
 (46,⟨.slice 53,1,24,some [.slice []]⟩),
 (50,⟨.slice 58,1,24,some [.slice []]⟩),
 (51,⟨.slice 252,1,24,some [.slice []]⟩),
 (52,⟨.strct [(0,1),(1,1),(2,1),(3,1),(4,1),(5,1)],6,104,some [.int .i64 0,.int .i64 0,.str [],.slice [],.slice [],.slice []]⟩),
 (53,⟨.strct [(0,1),(1,1),(2,1),(3,1),(4,1),(5,1)],6,104,some [.int .i64 0,.int .i64 0,.str [],.slice [],.slice [],.slice []]⟩),
 (54,⟨.slice 9,1,24,some [.slice []]⟩),
 (57,⟨.strct [(0,1),(1,1),(2,1),(3,1),(4,1)],5,88,some [.int .i64 0,.str [],.str [],.slice [],.slice []]⟩),
 (58,⟨.strct [(0,1),(1,1),(2,1),(3,1),(4,1)],5,88,some [.int .i64 0,.str [],.str [],.slice [],.slice []]⟩),
 (59,⟨.slice 3,1,24,some [.slice []]⟩),
 (60,⟨.slice 122,1,24,some [.slice []]⟩),
 (61,⟨.strct [(0,1),(1,1),(2,1),(3,1),(4,1),(5,1)],6,96,some [.bool false,.int .i64 0,.str [],.slice [],.slice [],.str []]⟩),
 (62,⟨.strct [(0,1),(1,1),(2,1),(3,1),(4,1),(5,1)],6,96,some [.bool false,.int .i64 0,.str [],.slice [],.slice [],.str []]⟩),
 (66,⟨.slice 68,1,24,some [.slice []]⟩),
 (67,⟨.strct [(0,1),(1,1),(2,1)],3,24,some [.int .i64 0,.int .i64 0,.int .i64 0]⟩),
 (68,⟨.strct [(0,1),(1,1),(2,1)],3,24,some [.int .i64 0,.int .i64 0,.int .i64 0]⟩),
 (69,⟨.strct [(0,1),(1,1),(2,3),(5,1),(6,1),(7,1),(8,1),(9,1),(10,1),(11,1),(12,1)],13,136,some [.int .i64 0,.int .i64 0,.int .i64 0,.int .i64 0,.int .i64 0,.int .i64 0,.int .i64 0,.int .i64 0,.int .i64 0,.str [],.str [],.str [],.str []]⟩),
 (70,⟨.strct [(0,1),(1,1),(2,3),(5,1),(6,1),(7,1),(8,1),(9,1),(10,1),(11,1),(12,1)],13,136,some [.int .i64 0,.int .i64 0,.int .i64 0,.int .i64 0,.int .i64 0,.int .i64 0,.int .i64 0,.int .i64 0,.int .i64 0,.str [],.str [],.str [],.str []]⟩),
 (71,⟨.strct [(0,1),(1,1),(2,1),(3,1),(4,1),(5,1),(6,1),(7,1),(8,1),(9,1),(10,1),(11,1),(12,3),(15,1),(16,1),(17,1),(18,1),(19,1),(20,1),(21,1),(22,13),(35,1),(36,1),(37,1),(38,1)],39,424,some [.int .i64 0,.int .i64 0,.int .i64 0,.int .i64 0,.int .i64 0,.int .i64 0,.int .i64 0,.str [],.str [],.str [],.slice [],.slice [],.int .i64 0,.int .i64 0,.int .i64 0,.int .i64 0,.int .i64 0,.int .i64 0,.str [],.int .i64 0,.int .i64 0,.str [],.int .i64 0,.int .i64 0,.int .i64 0,.int .i64 0,.int .i64 0,.int .i64 0,.int .i64 0,.int .i64 0,.int .i64 0,.str [],.str [],.str [],.str [],.int .i64 0,.int .i64 0,.int .i64 0,.str []]⟩),
 (72,⟨.strct [(0,1),(1,1),(2,1),(3,1),(4,1),(5,1),(6,1),(7,1),(8,1),(9,1),(10,1),(11,1),(12,3),(15,1),(16,1),(17,1),(18,1),(19,1),(20,1),(21,1),(22,13),(35,1),(36,1),(37,1),(38,1)],39,424,some [.int .i64 0,.int .i64 0,.int .i64 0,.int .i64 0,.int .i64 0,.int .i64 0,.int .i64 0,.str [],.str [],.str [],.slice [],.slice [],.int .i64 0,.int .i64 0,.int .i64 0,.int .i64 0,.int .i64 0,.int .i64 0,.str [],.int .i64 0,.int .i64 0,.str [],.int .i64 0,.int .i64 0,.int .i64 0,.int .i64 0,.int .i64 0,.int .i64 0,.int .i64 0,.int .i64 0,.int .i64 0,.str [],.str [],.str [],.str [],.int .i64 0,.int .i64 0,.int .i64 0,.str []]⟩),
 (81,⟨.slice 24,1,24,some [.snil]⟩),
 (82,⟨.strct [(0,1),(1,1),(2,1)],3,48,some [.str [],.snil,.int .i64 0]⟩),
 (83,⟨.strct [(0,1),(1,1),(2,1)],3,48,some [.str [],.snil,.int .i64 0]⟩),
 (96,⟨.ptr 83,1,8,some [.nilp]⟩),
 (102,⟨.slice 238,1,24,some [.slice []]⟩),
 (108,⟨.slice 326,1,24,some [.slice []]⟩),
 (109,⟨.slice 113,1,24,some [.slice []]⟩),
 (112,⟨.strct [(0,1),(1,1)],2,32,some [.str [],.str []]⟩),
 (113,⟨.strct [(0,1),(1,1)],2,32,some [.str [],.str []]⟩),
 (121,⟨.strct [(0,39),(39,1)],40,432,some [.int .i64 0,.int .i64 0,.int .i64 0,.int .i64 0,.int .i64 0,.int .i64 0,.int .i64 0,.str [],.str [],.str [],.slice [],.slice [],.int .i64 0,.int .i64 0,.int .i64 0,.int .i64 0,.int .i64 0,.int .i64 0,.str [],.int .i64 0,.int .i64 0,.str [],.int .i64 0,.int .i64 0,.int .i64 0,.int .i64 0,.int .i64 0,.int .i64 0,.int .i64 0,.int .i64 0,.int .i64 0,.str [],.str [],.str [],.str [],.int .i64 0,.int .i64 0,.int .i64 0,.str [],.int .i64 0]⟩),
 (122,⟨.strct [(0,39),(39,1)],40,432,some [.int .i64 0,.int .i64 0,.int .i64 0,.int .i64 0,.int .i64 0,.int .i64 0,.int .i64 0,.str [],.str [],.str [],.slice [],.slice [],.int .i64 0,.int .i64 0,.int .i64 0,.int .i64 0,.int .i64 0,.int .i64 0,.str [],.int .i64 0,.int .i64 0,.str [],.int .i64 0,.int .i64 0,.int .i64 0,.int .i64 0,.int .i64 0,.int .i64 0,.int .i64 0,.int .i64 0,.int .i64 0,.str [],.str [],.str [],.str [],.int .i64 0,.int .i64 0,.int .i64 0,.str [],.int .i64 0]⟩),
 (125,⟨.ptr 127,1,8,some [.nilp]⟩),
 (126,⟨.strct [(0,1),(1,1),(2,1)],3,32,some [.str [],.int .i64 0,.bool false]⟩),
 (127,⟨.strct [(0,1),(1,1),(2,1)],3,32,some [.str [],.int .i64 0,.bool false]⟩),
 (131,⟨.ptr 72,1,8,some [.nilp]⟩),
 (136,⟨.strct [(0,1),(1,1),(2,1)],3,40,some [.str [],.str [],.bool false]⟩),
 (137,⟨.strct [(0,1),(1,1),(2,1)],3,40,some [.str [],.str [],.bool false]⟩),
 (138,⟨.ptr 141,1,8,some [.nilp]⟩),
 (139,⟨.slice 5,1,24,some [.slice []]⟩),
 (140,⟨.strct [(0,1),(1,1)],2,32,some [.nilp,.slice []]⟩),
 (141,⟨.strct [(0,1),(1,1)],2,32,some [.nilp,.slice []]⟩),
 (143,⟨.iface,1,16,some [.nil]⟩),
 (144,⟨.iface,1,16,some [.nil]⟩),
 (152,⟨.int .u64,1,8,some [.int .u64 0]⟩),
 (153,⟨.slice 158,1,24,some [.slice []]⟩),
 (154,⟨.strct [(0,1)],1,24,some [.slice []]⟩),
 (155,⟨.strct [(0,1)],1,24,some [.slice []]⟩),
 (157,⟨.strct [(0,1),(1,1),(2,1)],3,48,some [.str [],.str [],.str []]⟩),
 (158,⟨.strct [(0,1),(1,1),(2,1)],3,48,some [.str [],.str [],.str []]⟩),
 (172,⟨.ptr 174,1,8,some [.nilp]⟩),
 (173,⟨.strct [(0,1),(1,1),(2,1),(3,1),(4,1),(5,1),(6,1)],7,96,some [.str [],.int .i64 0,.slice [],.slice [],.int .i64 0,.int .i64 0,.int .i64 0]⟩),
 (174,⟨.strct [(0,1),(1,1),(2,1),(3,1),(4,1),(5,1),(6,1)],7,96,some [.str [],.int .i64 0,.slice [],.slice [],.int .i64 0,.int .i64 0,.int .i64 0]⟩),
 (176,⟨.int .i64,1,8,some [.int .i64 0]⟩),
 (178,⟨.ptr 181,1,8,some [.nilp]⟩),
 (180,⟨.strct [(0,1),(1,1),(2,1),(3,1)],4,72,some [.str [],.slice [],.slice [],.int .i64 0]⟩),
 (181,⟨.strct [(0,1),(1,1),(2,1),(3,1)],4,72,some [.str [],.slice [],.slice [],.int .i64 0]⟩),
 (200,⟨.int .u64,1,8,some [.int .u64 0]⟩),
 (210,⟨.ptr 5,1,8,some [.nilp]⟩),
 (212,⟨.int .i64,1,8,some [.int .i64 0]⟩),
 (220,⟨.int .u32,1,4,some [.int .u32 0]⟩),
 (227,⟨.slice 309,1,24,some [.slice []]⟩),
 (228,⟨.strct [(0,1),(1,1)],2,32,some [.slice [],.int .i64 0]⟩),
 (229,⟨.strct [(0,1),(1,1)],2,32,some [.slice [],.int .i64 0]⟩),
 (237,⟨.strct [(0,1),(1,1),(2,1),(3,1)],4,48,some [.int .i64 0,.int .i64 0,.str [],.str []]⟩),
 (238,⟨.strct [(0,1),(1,1),(2,1),(3,1)],4,48,some [.int .i64 0,.int .i64 0,.str [],.str []]⟩),
 (251,⟨.strct [(0,1),(1,1),(2,1),(3,5),(8,1)],9,120,some [.int .i64 0,.int .i64 0,.int .i64 0,.int .i64 0,.str [],.str [],.slice [],.slice [],.bool false]⟩),
 (252,⟨.strct [(0,1),(1,1),(2,1),(3,5),(8,1)],9,120,some [.int .i64 0,.int .i64 0,.int .i64 0,.int .i64 0,.str [],.str [],.slice [],.slice [],.bool false]⟩),
 (263,⟨.ptr 265,1,8,some [.nilp]⟩),
 (264,⟨.strct [(0,1),(1,1)],2,24,some [.str [],.int .i64 0]⟩),
 (265,⟨.strct [(0,1),(1,1)],2,24,some [.str [],.int .i64 0]⟩),
 (274,⟨.strct [],13,104,some [.int .i64 0,.int .i64 0,.int .i64 0,.int .i64 0,.int .i64 0,.int .i64 0,.int .i64 0,.int .i64 0,.int .i64 0,.int .i64 0,.int .i64 0,.int .i64 0,.int .i64 0]⟩),
 (276,⟨.strct [],6,96,some [.str [],.str [],.str [],.str [],.str [],.str []]⟩),
 (298,⟨.int .u64,1,8,some [.int .u64 0]⟩),
 (302,⟨.ptr 3,1,8,some [.nilp]⟩),
 (304,⟨.ptr 306,1,8,some [.nilp]⟩),
 (305,⟨.strct [(0,1),(1,1),(2,1),(3,1),(4,1)],5,64,some [.str [],.int .i64 0,.int .i64 0,.slice [],.int .i64 0]⟩),
 (306,⟨.strct [(0,1),(1,1),(2,1),(3,1),(4,1)],5,64,some [.str [],.int .i64 0,.int .i64 0,.slice [],.int .i64 0]⟩),
 (308,⟨.strct [(0,1),(1,1),(2,1),(3,1),(4,1),(5,1)],6,56,some [.int .i64 0,.int .u8 0,.str [],.bool false,.int .i64 0,.int .i64 0]⟩),
 (309,⟨.strct [(0,1),(1,1),(2,1),(3,1),(4,1),(5,1)],6,56,some [.int .i64 0,.int .u8 0,.str [],.bool false,.int .i64 0,.int .i64 0]⟩),
 (310,⟨.ptr 312,1,8,some [.nilp]⟩),
 (311,⟨.strct [(0,6),(6,1),(7,1),(8,1)],9,160,some [.str [],.str [],.str [],.str [],.slice [],.str [],.str [],.slice [],.str []]⟩),
 (312,⟨.strct [(0,6),(6,1),(7,1),(8,1)],9,160,some [.str [],.str [],.str [],.str [],.slice [],.str [],.str [],.slice [],.str []]⟩),
 (324,⟨.slice 328,1,24,some [.slice []]⟩),
 (325,⟨.strct [(0,1),(1,1),(2,1)],3,40,some [.int .i64 0,.int .i64 0,.slice []]⟩),
 (326,⟨.strct [(0,1),(1,1),(2,1)],3,40,some [.int .i64 0,.int .i64 0,.slice []]⟩),
 (327,⟨.strct [(0,1),(1,1),(2,1)],3,48,some [.int .i64 0,.str [],.slice []]⟩),
 (328,⟨.strct [(0,1),(1,1),(2,1)],3,48,some [.int .i64 0,.str [],.slice []]⟩),
 (339,⟨.ptr 341,1,8,some [.nilp]⟩),
 (340,⟨.strct [(0,1),(1,1),(2,1)],3,32,some [.str [],.int .i64 0,.bool false]⟩),
 (341,⟨.strct [(0,1),(1,1),(2,1)],3,32,some [.str [],.int .i64 0,.bool false]⟩),
 (342,⟨.slice 26,1,24,some [.slice []]⟩),
 (343,⟨.slice 346,1,24,some [.slice []]⟩),
 (345,⟨.strct [(0,1),(1,1),(2,1)],3,24,some [.int .i64 0,.int .i64 0,.int .i64 0]⟩),
 (346,⟨.strct [(0,1),(1,1),(2,1)],3,24,some [.int .i64 0,.int .i64 0,.int .i64 0]⟩),
 (350,⟨.ptr 298,1,8,some [.nilp]⟩),
 (354,⟨.ptr 9,1,8,some [.nilp]⟩),
 (356,⟨.ptr 24,1,8,some [.nilp]⟩),
 (360,⟨.strct [(0,1),(1,1)],2,2,some [.int .u8 0,.int .u8 0]⟩),
 (361,⟨.strct [(0,1),(1,1)],2,2,some [.int .u8 0,.int .u8 0]⟩),
 (384,⟨.int .i64,1,8,some [.int .i64 0]⟩),
 (387,⟨.ptr 414,1,8,some [.nilp]⟩),
 (398,⟨.ptr 401,1,8,some [.nilp]⟩),
 (399,⟨.slice 406,1,24,some [.slice []]⟩),
 (400,⟨.strct [(0,2),(2,1),(3,1),(4,1),(5,1)],6,104,some [.slice [],.int .i64 0,.str [],.int .i64 0,.slice [],.slice []]⟩),
 (401,⟨.strct [(0,2),(2,1),(3,1),(4,1),(5,1)],6,104,some [.slice [],.int .i64 0,.str [],.int .i64 0,.slice [],.slice []]⟩),
 (405,⟨.strct [(0,1),(1,1)],2,32,some [.int .i64 0,.slice []]⟩),
 (406,⟨.strct [(0,1),(1,1)],2,32,some [.int .i64 0,.slice []]⟩),
 (413,⟨.strct [(0,1),(1,1),(2,1)],3,48,some [.str [],.str [],.nil]⟩),
 (414,⟨.strct [(0,1),(1,1),(2,1)],3,48,some [.str [],.str [],.nil]⟩),
 (421,⟨.ptr 423,1,8,some [.nilp]⟩),
 (422,⟨.strct [(0,1)],1,16,some [.str []]⟩),
 (423,⟨.strct [(0,1)],1,16,some [.str []]⟩),
 (425,⟨.strct [(0,1),(1,1),(2,1),(3,1)],4,40,some [.nilp,.nilp,.nilp,.str []]⟩),
 (426,⟨.strct [(0,1),(1,1),(2,1),(3,1)],4,40,some [.nilp,.nilp,.nilp,.str []]⟩),
 (428,⟨.strct [(0,0)],0,0,some []⟩),
 (429,⟨.strct [(0,0)],0,0,some []⟩),
 (430,⟨.int .u8,1,1,some [.int .u8 0]⟩),
 (431,⟨.int .u8,1,1,some [.int .u8 0]⟩),
 (433,⟨.int .i32,1,4,some [.int .i32 0]⟩),
 (434,⟨.int .i32,1,4,some [.int .i32 0]⟩),
 (435,⟨.strct [(0,1),(1,1),(2,1),(3,1),(4,1),(5,1),(6,1),(7,1),(8,1),(9,1),(10,1)],11,48,none⟩),
 (436,⟨.strct [(0,1),(1,1),(2,1),(3,1),(4,1),(5,1),(6,1),(7,1),(8,1),(9,1),(10,1)],11,48,none⟩)]
def eqtab:List (TypeId×List EK):=[(68,[.int,.int,.int]),(70,[.int,.int,.int,.int,.int,.int,.int,.int,.int,.str,.str,.str,.str]),(137,[.str,.str,.bool]),(274,[.int,.int,.int,.int,.int,.int,.int,.int,.int,.int,.int,.int,.int]),(276,[.str,.str,.str,.str,.str,.str])]
theorem eqtab_ok:eqtab.all (fun p=>eqcheck Tryz.prog p.1 p.2)=true:=by kernel_rfl
theorem tab_ok:tab.all (fun p=>tcheck Tryz.prog p.1 p.2)=true:=by kernel_rfl
def artab:List (TypeId×List (Nat×Nat)×List PV):=[(274,[(0,1),(1,1),(2,1),(3,1),(4,1),(5,1),(6,1),(7,1),(8,1),(9,1),(10,1),(11,1),(12,1)],[.int .i64 0,.int .i64 0,.int .i64 0,.int .i64 0,.int .i64 0,.int .i64 0,.int .i64 0,.int .i64 0,.int .i64 0,.int .i64 0,.int .i64 0,.int .i64 0,.int .i64 0]),(276,[(0,1),(1,1),(2,1),(3,1),(4,1),(5,1)],[.str [],.str [],.str [],.str [],.str [],.str []])]
theorem artab_ok:artab.all (archeck Tryz.prog)=true:=by kernel_rfl
noncomputable def env:Env where
 P:=Tryz.prog
 T:=tabT tab
 hT:=fun t ti h=>tabT_sound tab_ok t ti h
 gN:=8
 GI:=fun w=>(∃m,w.cell? ⟨0,0,none⟩=some (.int .i64 m))∧(∃ev,w.cell? ⟨6,0,none⟩=some ev∧(ev=.nilIface∨∃te pe,ev=.iface te pe))∧(∃ev,w.cell? ⟨7,0,none⟩=some ev∧(ev=.nilIface∨∃te pe,ev=.iface te pe))∧Lib.TabIs Tryz.prog w "internal/strconv.uint64pow10" .u64 Lib.pow10Tab
 hG:=by
  intro w w' ⟨⟨m,hm⟩,⟨e3,h3,k3⟩,⟨e4,h4,k4⟩,ht⟩ h
  have c:∀b,b<8→w'.cell? ⟨b,0,none⟩=w.cell? ⟨b,0,none⟩:=fun b hb=>World.cell?_of_block (a:=⟨b,0,none⟩) (h b hb)
  exact⟨⟨m,(c 0 (by decide)).trans hm⟩,⟨e3,(c 6 (by decide)).trans h3,k3⟩,⟨e4,(c 7 (by decide)).trans h4,k4⟩,tabIs_below (g:=1) (by kernel_rfl) ht (h 1 (by decide))⟩
 bT:=some 141
 be:=5
 eqT:=eqtabT eqtab
 arT:=artabT artab
 hAr:=fun t ls zs h=>artabT_sound artab_ok h
 nfz:=fun t=>([30]:List Nat).contains t
 ownT:=fun t=>([32,53,102,174,274,276]:List Nat).contains t
 hEq:=fun t ks h=>eqtabT_sound eqtab_ok h
 hbT:=by
  intro t ht w
  cases ht
  kernel_rfl
theorem env_pT:env.pT=none:=rfl
theorem T_2:env.T 2=some ⟨.int .i64,1,8,some [.int .i64 0]⟩:=rfl
theorem T_3:env.T 3=some ⟨.int .i64,1,8,some [.int .i64 0]⟩:=rfl
theorem T_4:env.T 4=some ⟨.bool,1,1,some [.bool false]⟩:=rfl
theorem T_5:env.T 5=some ⟨.int .u8,1,1,some [.int .u8 0]⟩:=rfl
theorem T_9:env.T 9=some ⟨.str,1,16,some [.str []]⟩:=rfl
theorem T_22:env.T 22=some ⟨.slice 137,1,24,some [.slice []]⟩:=rfl
theorem T_24:env.T 24=some ⟨.strct [(0,1),(1,1),(2,1),(3,1),(4,1),(5,1)],6,104,some [.str [],.str [],.str [],.str [],.slice [],.str []]⟩:=rfl
theorem T_26:env.T 26=some ⟨.int .i64,1,8,some [.int .i64 0]⟩:=rfl
theorem T_29:env.T 29=some ⟨.slice 155,1,24,some [.slice []]⟩:=rfl
theorem T_30:env.T 30=some ⟨.slice 83,1,24,some [.slice []]⟩:=rfl
theorem T_32:env.T 32=some ⟨.strct [(0,1),(1,1)],2,48,some [.slice [],.slice []]⟩:=rfl
theorem T_46:env.T 46=some ⟨.slice 53,1,24,some [.slice []]⟩:=rfl
theorem T_50:env.T 50=some ⟨.slice 58,1,24,some [.slice []]⟩:=rfl
theorem T_51:env.T 51=some ⟨.slice 252,1,24,some [.slice []]⟩:=rfl
theorem T_53:env.T 53=some ⟨.strct [(0,1),(1,1),(2,1),(3,1),(4,1),(5,1)],6,104,some [.int .i64 0,.int .i64 0,.str [],.slice [],.slice [],.slice []]⟩:=rfl
theorem T_54:env.T 54=some ⟨.slice 9,1,24,some [.slice []]⟩:=rfl
theorem T_58:env.T 58=some ⟨.strct [(0,1),(1,1),(2,1),(3,1),(4,1)],5,88,some [.int .i64 0,.str [],.str [],.slice [],.slice []]⟩:=rfl
theorem T_59:env.T 59=some ⟨.slice 3,1,24,some [.slice []]⟩:=rfl
theorem T_60:env.T 60=some ⟨.slice 122,1,24,some [.slice []]⟩:=rfl
theorem T_62:env.T 62=some ⟨.strct [(0,1),(1,1),(2,1),(3,1),(4,1),(5,1)],6,96,some [.bool false,.int .i64 0,.str [],.slice [],.slice [],.str []]⟩:=rfl
theorem T_66:env.T 66=some ⟨.slice 68,1,24,some [.slice []]⟩:=rfl
theorem T_68:env.T 68=some ⟨.strct [(0,1),(1,1),(2,1)],3,24,some [.int .i64 0,.int .i64 0,.int .i64 0]⟩:=rfl
theorem T_70:env.T 70=some ⟨.strct [(0,1),(1,1),(2,3),(5,1),(6,1),(7,1),(8,1),(9,1),(10,1),(11,1),(12,1)],13,136,some [.int .i64 0,.int .i64 0,.int .i64 0,.int .i64 0,.int .i64 0,.int .i64 0,.int .i64 0,.int .i64 0,.int .i64 0,.str [],.str [],.str [],.str []]⟩:=rfl
theorem T_72:env.T 72=some ⟨.strct [(0,1),(1,1),(2,1),(3,1),(4,1),(5,1),(6,1),(7,1),(8,1),(9,1),(10,1),(11,1),(12,3),(15,1),(16,1),(17,1),(18,1),(19,1),(20,1),(21,1),(22,13),(35,1),(36,1),(37,1),(38,1)],39,424,some [.int .i64 0,.int .i64 0,.int .i64 0,.int .i64 0,.int .i64 0,.int .i64 0,.int .i64 0,.str [],.str [],.str [],.slice [],.slice [],.int .i64 0,.int .i64 0,.int .i64 0,.int .i64 0,.int .i64 0,.int .i64 0,.str [],.int .i64 0,.int .i64 0,.str [],.int .i64 0,.int .i64 0,.int .i64 0,.int .i64 0,.int .i64 0,.int .i64 0,.int .i64 0,.int .i64 0,.int .i64 0,.str [],.str [],.str [],.str [],.int .i64 0,.int .i64 0,.int .i64 0,.str []]⟩:=rfl
theorem T_81:env.T 81=some ⟨.slice 24,1,24,some [.snil]⟩:=rfl
theorem T_83:env.T 83=some ⟨.strct [(0,1),(1,1),(2,1)],3,48,some [.str [],.snil,.int .i64 0]⟩:=rfl
theorem T_102:env.T 102=some ⟨.slice 238,1,24,some [.slice []]⟩:=rfl
theorem T_108:env.T 108=some ⟨.slice 326,1,24,some [.slice []]⟩:=rfl
theorem T_109:env.T 109=some ⟨.slice 113,1,24,some [.slice []]⟩:=rfl
theorem T_113:env.T 113=some ⟨.strct [(0,1),(1,1)],2,32,some [.str [],.str []]⟩:=rfl
theorem T_122:env.T 122=some ⟨.strct [(0,39),(39,1)],40,432,some [.int .i64 0,.int .i64 0,.int .i64 0,.int .i64 0,.int .i64 0,.int .i64 0,.int .i64 0,.str [],.str [],.str [],.slice [],.slice [],.int .i64 0,.int .i64 0,.int .i64 0,.int .i64 0,.int .i64 0,.int .i64 0,.str [],.int .i64 0,.int .i64 0,.str [],.int .i64 0,.int .i64 0,.int .i64 0,.int .i64 0,.int .i64 0,.int .i64 0,.int .i64 0,.int .i64 0,.int .i64 0,.str [],.str [],.str [],.str [],.int .i64 0,.int .i64 0,.int .i64 0,.str [],.int .i64 0]⟩:=rfl
theorem T_125:env.T 125=some ⟨.ptr 127,1,8,some [.nilp]⟩:=rfl
theorem T_127:env.T 127=some ⟨.strct [(0,1),(1,1),(2,1)],3,32,some [.str [],.int .i64 0,.bool false]⟩:=rfl
theorem T_131:env.T 131=some ⟨.ptr 72,1,8,some [.nilp]⟩:=rfl
theorem T_137:env.T 137=some ⟨.strct [(0,1),(1,1),(2,1)],3,40,some [.str [],.str [],.bool false]⟩:=rfl
theorem T_139:env.T 139=some ⟨.slice 5,1,24,some [.slice []]⟩:=rfl
theorem T_141:env.T 141=some ⟨.strct [(0,1),(1,1)],2,32,some [.nilp,.slice []]⟩:=rfl
theorem T_152:env.T 152=some ⟨.int .u64,1,8,some [.int .u64 0]⟩:=rfl
theorem T_155:env.T 155=some ⟨.strct [(0,1)],1,24,some [.slice []]⟩:=rfl
theorem T_172:env.T 172=some ⟨.ptr 174,1,8,some [.nilp]⟩:=rfl
theorem T_174:env.T 174=some ⟨.strct [(0,1),(1,1),(2,1),(3,1),(4,1),(5,1),(6,1)],7,96,some [.str [],.int .i64 0,.slice [],.slice [],.int .i64 0,.int .i64 0,.int .i64 0]⟩:=rfl
theorem T_178:env.T 178=some ⟨.ptr 181,1,8,some [.nilp]⟩:=rfl
theorem T_181:env.T 181=some ⟨.strct [(0,1),(1,1),(2,1),(3,1)],4,72,some [.str [],.slice [],.slice [],.int .i64 0]⟩:=rfl
theorem T_200:env.T 200=some ⟨.int .u64,1,8,some [.int .u64 0]⟩:=rfl
theorem T_238:env.T 238=some ⟨.strct [(0,1),(1,1),(2,1),(3,1)],4,48,some [.int .i64 0,.int .i64 0,.str [],.str []]⟩:=rfl
theorem T_252:env.T 252=some ⟨.strct [(0,1),(1,1),(2,1),(3,5),(8,1)],9,120,some [.int .i64 0,.int .i64 0,.int .i64 0,.int .i64 0,.str [],.str [],.slice [],.slice [],.bool false]⟩:=rfl
theorem T_263:env.T 263=some ⟨.ptr 265,1,8,some [.nilp]⟩:=rfl
theorem T_265:env.T 265=some ⟨.strct [(0,1),(1,1)],2,24,some [.str [],.int .i64 0]⟩:=rfl
theorem T_274:env.T 274=some ⟨.strct [],13,104,some [.int .i64 0,.int .i64 0,.int .i64 0,.int .i64 0,.int .i64 0,.int .i64 0,.int .i64 0,.int .i64 0,.int .i64 0,.int .i64 0,.int .i64 0,.int .i64 0,.int .i64 0]⟩:=rfl
theorem T_276:env.T 276=some ⟨.strct [],6,96,some [.str [],.str [],.str [],.str [],.str [],.str []]⟩:=rfl
theorem T_326:env.T 326=some ⟨.strct [(0,1),(1,1),(2,1)],3,40,some [.int .i64 0,.int .i64 0,.slice []]⟩:=rfl
theorem ownT_22:env.ownT 22=false:=rfl
theorem ownT_24:env.ownT 24=false:=rfl
theorem ownT_30:env.ownT 30=false:=rfl
theorem ownT_32:env.ownT 32=true:=rfl
theorem ownT_46:env.ownT 46=false:=rfl
theorem ownT_50:env.ownT 50=false:=rfl
theorem ownT_53:env.ownT 53=true:=rfl
theorem ownT_54:env.ownT 54=false:=rfl
theorem ownT_58:env.ownT 58=false:=rfl
theorem ownT_60:env.ownT 60=false:=rfl
theorem ownT_62:env.ownT 62=false:=rfl
theorem ownT_72:env.ownT 72=false:=rfl
theorem ownT_81:env.ownT 81=false:=rfl
theorem ownT_83:env.ownT 83=false:=rfl
theorem ownT_102:env.ownT 102=true:=rfl
theorem ownT_109:env.ownT 109=false:=rfl
theorem ownT_113:env.ownT 113=false:=rfl
theorem ownT_122:env.ownT 122=false:=rfl
theorem ownT_127:env.ownT 127=false:=rfl
theorem ownT_137:env.ownT 137=false:=rfl
theorem ownT_174:env.ownT 174=true:=rfl
theorem ownT_238:env.ownT 238=false:=rfl
theorem ownT_265:env.ownT 265=false:=rfl
theorem ownT_274:env.ownT 274=true:=rfl
theorem ownT_276:env.ownT 276=true:=rfl
theorem arT_32:env.arT 32=none:=rfl
theorem arT_53:env.arT 53=none:=rfl
theorem arT_174:env.arT 174=none:=rfl
theorem nfz_22:env.nfz 22=false:=rfl
theorem nfz_30:env.nfz 30=true:=rfl
theorem nfz_46:env.nfz 46=false:=rfl
theorem nfz_50:env.nfz 50=false:=rfl
theorem nfz_54:env.nfz 54=false:=rfl
theorem nfz_81:env.nfz 81=false:=rfl
theorem nfz_102:env.nfz 102=false:=rfl
theorem eqT_3:env.eqT 3=none:=rfl
theorem eqT_5:env.eqT 5=none:=rfl
theorem eqT_9:env.eqT 9=none:=rfl
theorem eqT_26:env.eqT 26=none:=rfl
theorem eqT_68:env.eqT 68=some [.int,.int,.int]:=rfl
theorem eqT_70:env.eqT 70=some [.int,.int,.int,.int,.int,.int,.int,.int,.int,.str,.str,.str,.str]:=rfl
theorem eqT_137:env.eqT 137=some [.str,.str,.bool]:=rfl
theorem eqT_200:env.eqT 200=none:=rfl
theorem eqT_274:env.eqT 274=some [.int,.int,.int,.int,.int,.int,.int,.int,.int,.int,.int,.int,.int]:=rfl
theorem eqT_276:env.eqT 276=some [.str,.str,.str,.str,.str,.str]:=rfl
theorem qf_238_0(cs:List PV):qfield env 238 0 (.pv (.agg cs))=(rdCells ⟨.int .i64,1,8,some [.int .i64 0]⟩ (cs.drop 0)).map .pv:=by
 have h:fieldAt env 238 0=some (0,3):=by kernel_rfl
 unfold qfield
 rw[h]
 simp only[rdField,T_3]
theorem qf_238_1(cs:List PV):qfield env 238 1 (.pv (.agg cs))=(rdCells ⟨.int .i64,1,8,some [.int .i64 0]⟩ (cs.drop 1)).map .pv:=by
 have h:fieldAt env 238 1=some (1,3):=by kernel_rfl
 unfold qfield
 rw[h]
 simp only[rdField,T_3]
theorem mixed:env.P.follows .mixedOrders=true:=by kernel_rfl
theorem env_bT:env.bT=some 141:=rfl
theorem env_P:env.P=Tryz.prog:=rfl
theorem fn_3:env.P.funcs[3]?=some Tryz.f3:=by
 rw[env_P]
 exact Tryz.func3
theorem fn_4:env.P.funcs[4]?=some Tryz.f4:=by
 rw[env_P]
 exact Tryz.func4
theorem fn_5:env.P.funcs[5]?=some Tryz.f5:=by
 rw[env_P]
 exact Tryz.func5
theorem fn_6:env.P.funcs[6]?=some Tryz.f6:=by
 rw[env_P]
 exact Tryz.func6
theorem fn_7:env.P.funcs[7]?=some Tryz.f7:=by
 rw[env_P]
 exact Tryz.func7
theorem fn_8:env.P.funcs[8]?=some Tryz.f8:=by
 rw[env_P]
 exact Tryz.func8
theorem fn_9:env.P.funcs[9]?=some Tryz.f9:=by
 rw[env_P]
 exact Tryz.func9
theorem fn_10:env.P.funcs[10]?=some Tryz.f10:=by
 rw[env_P]
 exact Tryz.func10
theorem fn_11:env.P.funcs[11]?=some Tryz.f11:=by
 rw[env_P]
 exact Tryz.func11
theorem fn_12:env.P.funcs[12]?=some Tryz.f12:=by
 rw[env_P]
 exact Tryz.func12
theorem fn_13:env.P.funcs[13]?=some Tryz.f13:=by
 rw[env_P]
 exact Tryz.func13
theorem fn_14:env.P.funcs[14]?=some Tryz.f14:=by
 rw[env_P]
 exact Tryz.func14
theorem fn_15:env.P.funcs[15]?=some Tryz.f15:=by
 rw[env_P]
 exact Tryz.func15
theorem fn_16:env.P.funcs[16]?=some Tryz.f16:=by
 rw[env_P]
 exact Tryz.func16
theorem fn_17:env.P.funcs[17]?=some Tryz.f17:=by
 rw[env_P]
 exact Tryz.func17
theorem fn_18:env.P.funcs[18]?=some Tryz.f18:=by
 rw[env_P]
 exact Tryz.func18
theorem fn_19:env.P.funcs[19]?=some Tryz.f19:=by
 rw[env_P]
 exact Tryz.func19
theorem fn_20:env.P.funcs[20]?=some Tryz.f20:=by
 rw[env_P]
 exact Tryz.func20
theorem fn_21:env.P.funcs[21]?=some Tryz.f21:=by
 rw[env_P]
 exact Tryz.func21
theorem fn_22:env.P.funcs[22]?=some Tryz.f22:=by
 rw[env_P]
 exact Tryz.func22
theorem fn_23:env.P.funcs[23]?=some Tryz.f23:=by
 rw[env_P]
 exact Tryz.func23
theorem fn_24:env.P.funcs[24]?=some Tryz.f24:=by
 rw[env_P]
 exact Tryz.func24
theorem fn_25:env.P.funcs[25]?=some Tryz.f25:=by
 rw[env_P]
 exact Tryz.func25
theorem fn_26:env.P.funcs[26]?=some Tryz.f26:=by
 rw[env_P]
 exact Tryz.func26
theorem fn_27:env.P.funcs[27]?=some Tryz.f27:=by
 rw[env_P]
 exact Tryz.func27
theorem fn_28:env.P.funcs[28]?=some Tryz.f28:=by
 rw[env_P]
 exact Tryz.func28
theorem fn_29:env.P.funcs[29]?=some Tryz.f29:=by
 rw[env_P]
 exact Tryz.func29
theorem fn_30:env.P.funcs[30]?=some Tryz.f30:=by
 rw[env_P]
 exact Tryz.func30
theorem fn_31:env.P.funcs[31]?=some Tryz.f31:=by
 rw[env_P]
 exact Tryz.func31
theorem fn_32:env.P.funcs[32]?=some Tryz.f32:=by
 rw[env_P]
 exact Tryz.func32
theorem fn_34:env.P.funcs[34]?=some Tryz.f34:=by
 rw[env_P]
 exact Tryz.func34
theorem fn_36:env.P.funcs[36]?=some Tryz.f36:=by
 rw[env_P]
 exact Tryz.func36
theorem fn_37:env.P.funcs[37]?=some Tryz.f37:=by
 rw[env_P]
 exact Tryz.func37
theorem fn_38:env.P.funcs[38]?=some Tryz.f38:=by
 rw[env_P]
 exact Tryz.func38
theorem fn_39:env.P.funcs[39]?=some Tryz.f39:=by
 rw[env_P]
 exact Tryz.func39
theorem fn_40:env.P.funcs[40]?=some Tryz.f40:=by
 rw[env_P]
 exact Tryz.func40
theorem fn_41:env.P.funcs[41]?=some Tryz.f41:=by
 rw[env_P]
 exact Tryz.func41
theorem fn_42:env.P.funcs[42]?=some Tryz.f42:=by
 rw[env_P]
 exact Tryz.func42
theorem fn_43:env.P.funcs[43]?=some Tryz.f43:=by
 rw[env_P]
 exact Tryz.func43
theorem fn_44:env.P.funcs[44]?=some Tryz.f44:=by
 rw[env_P]
 exact Tryz.func44
theorem fn_45:env.P.funcs[45]?=some Tryz.f45:=by
 rw[env_P]
 exact Tryz.func45
theorem fn_46:env.P.funcs[46]?=some Tryz.f46:=by
 rw[env_P]
 exact Tryz.func46
theorem fn_47:env.P.funcs[47]?=some Tryz.f47:=by
 rw[env_P]
 exact Tryz.func47
theorem fn_48:env.P.funcs[48]?=some Tryz.f48:=by
 rw[env_P]
 exact Tryz.func48
theorem fn_49:env.P.funcs[49]?=some Tryz.f49:=by
 rw[env_P]
 exact Tryz.func49
theorem fn_50:env.P.funcs[50]?=some Tryz.f50:=by
 rw[env_P]
 exact Tryz.func50
theorem fn_51:env.P.funcs[51]?=some Tryz.f51:=by
 rw[env_P]
 exact Tryz.func51
theorem fn_52:env.P.funcs[52]?=some Tryz.f52:=by
 rw[env_P]
 exact Tryz.func52
theorem fn_53:env.P.funcs[53]?=some Tryz.f53:=by
 rw[env_P]
 exact Tryz.func53
theorem fn_54:env.P.funcs[54]?=some Tryz.f54:=by
 rw[env_P]
 exact Tryz.func54
theorem fn_55:env.P.funcs[55]?=some Tryz.f55:=by
 rw[env_P]
 exact Tryz.func55
theorem fn_56:env.P.funcs[56]?=some Tryz.f56:=by
 rw[env_P]
 exact Tryz.func56
theorem fn_57:env.P.funcs[57]?=some Tryz.f57:=by
 rw[env_P]
 exact Tryz.func57
theorem fn_58:env.P.funcs[58]?=some Tryz.f58:=by
 rw[env_P]
 exact Tryz.func58
theorem fn_59:env.P.funcs[59]?=some Tryz.f59:=by
 rw[env_P]
 exact Tryz.func59
theorem fn_60:env.P.funcs[60]?=some Tryz.f60:=by
 rw[env_P]
 exact Tryz.func60
theorem fn_61:env.P.funcs[61]?=some Tryz.f61:=by
 rw[env_P]
 exact Tryz.func61
theorem fn_62:env.P.funcs[62]?=some Tryz.f62:=by
 rw[env_P]
 exact Tryz.func62
theorem fn_64:env.P.funcs[64]?=some Tryz.f64:=by
 rw[env_P]
 exact Tryz.func64
theorem fn_65:env.P.funcs[65]?=some Tryz.f65:=by
 rw[env_P]
 exact Tryz.func65
theorem fn_66:env.P.funcs[66]?=some Tryz.f66:=by
 rw[env_P]
 exact Tryz.func66
theorem fn_67:env.P.funcs[67]?=some Tryz.f67:=by
 rw[env_P]
 exact Tryz.func67
theorem fn_68:env.P.funcs[68]?=some Tryz.f68:=by
 rw[env_P]
 exact Tryz.func68
theorem fn_69:env.P.funcs[69]?=some Tryz.f69:=by
 rw[env_P]
 exact Tryz.func69
theorem fn_70:env.P.funcs[70]?=some Tryz.f70:=by
 rw[env_P]
 exact Tryz.func70
theorem fn_71:env.P.funcs[71]?=some Tryz.f71:=by
 rw[env_P]
 exact Tryz.func71
theorem fn_73:env.P.funcs[73]?=some Tryz.f73:=by
 rw[env_P]
 exact Tryz.func73
theorem fn_75:env.P.funcs[75]?=some Tryz.f75:=by
 rw[env_P]
 exact Tryz.func75
theorem fn_79:env.P.funcs[79]?=some Tryz.f79:=by
 rw[env_P]
 exact Tryz.func79
theorem fn_80:env.P.funcs[80]?=some Tryz.f80:=by
 rw[env_P]
 exact Tryz.func80
theorem fn_81:env.P.funcs[81]?=some Tryz.f81:=by
 rw[env_P]
 exact Tryz.func81
theorem fn_84:env.P.funcs[84]?=some Tryz.f84:=by
 rw[env_P]
 exact Tryz.func84
theorem fn_85:env.P.funcs[85]?=some Tryz.f85:=by
 rw[env_P]
 exact Tryz.func85
theorem fn_86:env.P.funcs[86]?=some Tryz.f86:=by
 rw[env_P]
 exact Tryz.func86
theorem fn_87:env.P.funcs[87]?=some Tryz.f87:=by
 rw[env_P]
 exact Tryz.func87
theorem fn_88:env.P.funcs[88]?=some Tryz.f88:=by
 rw[env_P]
 exact Tryz.func88
theorem fn_89:env.P.funcs[89]?=some Tryz.f89:=by
 rw[env_P]
 exact Tryz.func89
theorem fn_90:env.P.funcs[90]?=some Tryz.f90:=by
 rw[env_P]
 exact Tryz.func90
theorem fn_93:env.P.funcs[93]?=some Tryz.f93:=by
 rw[env_P]
 exact Tryz.func93
theorem fn_95:env.P.funcs[95]?=some Tryz.f95:=by
 rw[env_P]
 exact Tryz.func95
theorem fn_96:env.P.funcs[96]?=some Tryz.f96:=by
 rw[env_P]
 exact Tryz.func96
theorem fn_98:env.P.funcs[98]?=some Tryz.f98:=by
 rw[env_P]
 exact Tryz.func98
theorem fn_99:env.P.funcs[99]?=some Tryz.f99:=by
 rw[env_P]
 exact Tryz.func99
theorem fn_100:env.P.funcs[100]?=some Tryz.f100:=by
 rw[env_P]
 exact Tryz.func100
theorem fn_101:env.P.funcs[101]?=some Tryz.f101:=by
 rw[env_P]
 exact Tryz.func101
theorem fn_109:env.P.funcs[109]?=some Tryz.f109:=by
 rw[env_P]
 exact Tryz.func109
theorem fn_110:env.P.funcs[110]?=some Tryz.f110:=by
 rw[env_P]
 exact Tryz.func110
theorem fn_112:env.P.funcs[112]?=some Tryz.f112:=by
 rw[env_P]
 exact Tryz.func112
theorem fn_113:env.P.funcs[113]?=some Tryz.f113:=by
 rw[env_P]
 exact Tryz.func113
theorem fn_114:env.P.funcs[114]?=some Tryz.f114:=by
 rw[env_P]
 exact Tryz.func114
theorem fn_115:env.P.funcs[115]?=some Tryz.f115:=by
 rw[env_P]
 exact Tryz.func115
theorem fn_116:env.P.funcs[116]?=some Tryz.f116:=by
 rw[env_P]
 exact Tryz.func116
theorem fn_124:env.P.funcs[124]?=some Tryz.f124:=by
 rw[env_P]
 exact Tryz.func124
theorem fn_125:env.P.funcs[125]?=some Tryz.f125:=by
 rw[env_P]
 exact Tryz.func125
theorem fn_126:env.P.funcs[126]?=some Tryz.f126:=by
 rw[env_P]
 exact Tryz.func126
theorem fn_127:env.P.funcs[127]?=some Tryz.f127:=by
 rw[env_P]
 exact Tryz.func127
theorem fn_129:env.P.funcs[129]?=some Tryz.f129:=by
 rw[env_P]
 exact Tryz.func129
theorem fn_130:env.P.funcs[130]?=some Tryz.f130:=by
 rw[env_P]
 exact Tryz.func130
theorem fn_131:env.P.funcs[131]?=some Tryz.f131:=by
 rw[env_P]
 exact Tryz.func131
theorem fn_134:env.P.funcs[134]?=some Tryz.f134:=by
 rw[env_P]
 exact Tryz.func134
theorem fn_135:env.P.funcs[135]?=some Tryz.f135:=by
 rw[env_P]
 exact Tryz.func135
theorem fn_144:env.P.funcs[144]?=some Tryz.f144:=by
 rw[env_P]
 exact Tryz.func144
theorem fn_146:env.P.funcs[146]?=some Tryz.f146:=by
 rw[env_P]
 exact Tryz.func146
theorem fn_149:env.P.funcs[149]?=some Tryz.f149:=by
 rw[env_P]
 exact Tryz.func149
theorem fn_156:env.P.funcs[156]?=some Tryz.f156:=by
 rw[env_P]
 exact Tryz.func156
theorem fn_157:env.P.funcs[157]?=some Tryz.f157:=by
 rw[env_P]
 exact Tryz.func157
theorem fn_158:env.P.funcs[158]?=some Tryz.f158:=by
 rw[env_P]
 exact Tryz.func158
theorem fn_160:env.P.funcs[160]?=some Tryz.f160:=by
 rw[env_P]
 exact Tryz.func160
theorem fn_163:env.P.funcs[163]?=some Tryz.f163:=by
 rw[env_P]
 exact Tryz.func163
theorem fn_164:env.P.funcs[164]?=some Tryz.f164:=by
 rw[env_P]
 exact Tryz.func164
theorem fn_165:env.P.funcs[165]?=some Tryz.f165:=by
 rw[env_P]
 exact Tryz.func165
theorem fn_166:env.P.funcs[166]?=some Tryz.f166:=by
 rw[env_P]
 exact Tryz.func166
theorem fn_168:env.P.funcs[168]?=some Tryz.f168:=by
 rw[env_P]
 exact Tryz.func168
theorem fn_169:env.P.funcs[169]?=some Tryz.f169:=by
 rw[env_P]
 exact Tryz.func169
theorem fn_170:env.P.funcs[170]?=some Tryz.f170:=by
 rw[env_P]
 exact Tryz.func170
theorem fn_171:env.P.funcs[171]?=some Tryz.f171:=by
 rw[env_P]
 exact Tryz.func171
theorem fn_172:env.P.funcs[172]?=some Tryz.f172:=by
 rw[env_P]
 exact Tryz.func172
theorem fn_173:env.P.funcs[173]?=some Tryz.f173:=by
 rw[env_P]
 exact Tryz.func173
theorem fn_175:env.P.funcs[175]?=some Tryz.f175:=by
 rw[env_P]
 exact Tryz.func175
theorem fn_176:env.P.funcs[176]?=some Tryz.f176:=by
 rw[env_P]
 exact Tryz.func176
theorem fn_178:env.P.funcs[178]?=some Tryz.f178:=by
 rw[env_P]
 exact Tryz.func178
theorem fn_183:env.P.funcs[183]?=some Tryz.f183:=by
 rw[env_P]
 exact Tryz.func183
theorem fn_186:env.P.funcs[186]?=some Tryz.f186:=by
 rw[env_P]
 exact Tryz.func186
theorem fn_187:env.P.funcs[187]?=some Tryz.f187:=by
 rw[env_P]
 exact Tryz.func187
theorem fn_188:env.P.funcs[188]?=some Tryz.f188:=by
 rw[env_P]
 exact Tryz.func188
theorem fn_192:env.P.funcs[192]?=some Tryz.f192:=by
 rw[env_P]
 exact Tryz.func192
theorem fn_193:env.P.funcs[193]?=some Tryz.f193:=by
 rw[env_P]
 exact Tryz.func193
theorem fn_194:env.P.funcs[194]?=some Tryz.f194:=by
 rw[env_P]
 exact Tryz.func194
theorem fn_195:env.P.funcs[195]?=some Tryz.f195:=by
 rw[env_P]
 exact Tryz.func195
theorem fn_196:env.P.funcs[196]?=some Tryz.f196:=by
 rw[env_P]
 exact Tryz.func196
theorem fn_198:env.P.funcs[198]?=some Tryz.f198:=by
 rw[env_P]
 exact Tryz.func198
theorem fn_200:env.P.funcs[200]?=some Tryz.f200:=by
 rw[env_P]
 exact Tryz.func200
theorem fn_207:env.P.funcs[207]?=some Tryz.f207:=by
 rw[env_P]
 exact Tryz.func207
theorem fn_226:env.P.funcs[226]?=some Tryz.f226:=by
 rw[env_P]
 exact Tryz.func226
theorem fn_227:env.P.funcs[227]?=some Tryz.f227:=by
 rw[env_P]
 exact Tryz.func227
theorem fn_230:env.P.funcs[230]?=some Tryz.f230:=by
 rw[env_P]
 exact Tryz.func230
theorem fn_231:env.P.funcs[231]?=some Tryz.f231:=by
 rw[env_P]
 exact Tryz.func231
theorem fn_234:env.P.funcs[234]?=some Tryz.f234:=by
 rw[env_P]
 exact Tryz.func234
theorem fn_235:env.P.funcs[235]?=some Tryz.f235:=by
 rw[env_P]
 exact Tryz.func235
theorem fn_236:env.P.funcs[236]?=some Tryz.f236:=by
 rw[env_P]
 exact Tryz.func236
theorem fn_237:env.P.funcs[237]?=some Tryz.f237:=by
 rw[env_P]
 exact Tryz.func237
theorem fn_238:env.P.funcs[238]?=some Tryz.f238:=by
 rw[env_P]
 exact Tryz.func238
theorem fn_239:env.P.funcs[239]?=some Tryz.f239:=by
 rw[env_P]
 exact Tryz.func239
theorem fn_240:env.P.funcs[240]?=some Tryz.f240:=by
 rw[env_P]
 exact Tryz.func240
theorem fn_241:env.P.funcs[241]?=some Tryz.f241:=by
 rw[env_P]
 exact Tryz.func241
theorem fn_249:env.P.funcs[249]?=some Tryz.f249:=by
 rw[env_P]
 exact Tryz.func249
theorem fn_277:env.P.funcs[277]?=some Tryz.f277:=by
 rw[env_P]
 exact Tryz.func277
theorem fn_279:env.P.funcs[279]?=some Tryz.f279:=by
 rw[env_P]
 exact Tryz.func279
theorem fn_307:env.P.funcs[307]?=some Tryz.f307:=by
 rw[env_P]
 exact Tryz.func307
theorem fn_326:env.P.funcs[326]?=some Tryz.f326:=by
 rw[env_P]
 exact Tryz.func326
theorem fn_335:env.P.funcs[335]?=some Tryz.f335:=by
 rw[env_P]
 exact Tryz.func335
theorem fn_345:env.P.funcs[345]?=some Tryz.f345:=by
 rw[env_P]
 exact Tryz.func345
theorem fn_356:env.P.funcs[356]?=some Tryz.f356:=by
 rw[env_P]
 exact Tryz.func356
structure Attr where
 name_:Str
 value_:Str
 query_:Bool
instance:Inhabited Attr:=⟨⟨[],[],false⟩⟩
def Attr.pv(x:Attr):PV:=.agg [.str x.name_,.str x.value_,.bool x.query_]
theorem Attr.pv_eq(x:Attr):x.pv=.agg [.str x.name_,.str x.value_,.bool x.query_]:=rfl
theorem Attr.inj{x y:Attr}(h:x.pv=y.pv):x=y:=by
 obtain⟨a1,a2,a3⟩:=x
 obtain⟨b1,b2,b3⟩:=y
 simp only[Attr.pv,PV.agg.injEq,List.cons.injEq,and_true]at h
 obtain⟨h1,h2,h3⟩:=h
 cases(str_inj h1)
 cases(str_inj h2)
 cases(bool_inj h3)
 rfl
theorem Attr.all(xs:List Attr):((xs.map Attr.pv).all fun z=>z.cells.length==3)=true:=by
 simp[Attr.pv,PV.cells]
def P22(xs:List Attr):PV:=.slice (xs.map Attr.pv)
theorem P22_eq(xs:List Attr):P22 xs=.slice (xs.map Attr.pv):=rfl
theorem P22_inj{x y:List Attr}(h:P22 x=P22 y):x=y:=map_inj_of (fun _ _=>Attr.inj) (PV.slice.inj h)
structure Plumb where
 src_:Str
 dst_:Str
 dir_:Str
 type_:Str
 attrs_:List Attr
 data_:Str
instance:Inhabited Plumb:=⟨⟨[],[],[],[],[],[]⟩⟩
def Plumb.pv(x:Plumb):PV:=.agg [.str x.src_,.str x.dst_,.str x.dir_,.str x.type_,.slice (List.map Attr.pv x.attrs_),.str x.data_]
theorem Plumb.pv_eq(x:Plumb):x.pv=.agg [.str x.src_,.str x.dst_,.str x.dir_,.str x.type_,.slice (List.map Attr.pv x.attrs_),.str x.data_]:=rfl
theorem Plumb.inj{x y:Plumb}(h:x.pv=y.pv):x=y:=by
 obtain⟨a1,a2,a3,a4,a5,a6⟩:=x
 obtain⟨b1,b2,b3,b4,b5,b6⟩:=y
 simp only[Plumb.pv,PV.agg.injEq,List.cons.injEq,and_true]at h
 obtain⟨h1,h2,h3,h4,h5,h6⟩:=h
 cases(str_inj h1)
 cases(str_inj h2)
 cases(str_inj h3)
 cases(str_inj h4)
 cases(map_inj_of (fun _ _=>Attr.inj) (PV.slice.inj h5))
 cases(str_inj h6)
 rfl
theorem Plumb.all(xs:List Plumb):((xs.map Plumb.pv).all fun z=>z.cells.length==6)=true:=by
 simp[Plumb.pv,PV.cells]
structure Token where
 kind_:Int
 at_:Int
 text_:Str
 quoted_:Str
instance:Inhabited Token:=⟨⟨0,0,[],[]⟩⟩
def Token.pv(x:Token):PV:=.agg [.int .i64 x.kind_,.int .i64 x.at_,.str x.text_,.str x.quoted_]
theorem Token.pv_eq(x:Token):x.pv=.agg [.int .i64 x.kind_,.int .i64 x.at_,.str x.text_,.str x.quoted_]:=rfl
theorem Token.inj{x y:Token}(h:x.pv=y.pv):x=y:=by
 obtain⟨a1,a2,a3,a4⟩:=x
 obtain⟨b1,b2,b3,b4⟩:=y
 simp only[Token.pv,PV.agg.injEq,List.cons.injEq,and_true]at h
 obtain⟨h1,h2,h3,h4⟩:=h
 cases(int_inj h1)
 cases(int_inj h2)
 cases(str_inj h3)
 cases(str_inj h4)
 rfl
theorem Token.all(xs:List Token):((xs.map Token.pv).all fun z=>z.cells.length==4)=true:=by
 simp[Token.pv,PV.cells]
mutual
structure Cmd where
 kind_:Int
 at_:Int
 name_:Str
 words_:List Word
 redirs_:List Redir
 kids_:List Cmd
structure Word where
 kind_:Int
 text_:Str
 quoted_:Str
 words_:List Word
 cmd_:List Cmd
structure Redir where
 kind_:Int
 fd_:Int
 from_:Int
 word_:Word
 raw_:Bool
end
instance:Inhabited Cmd:=⟨⟨0,0,[],[],[],[]⟩⟩
instance:Inhabited Word:=⟨⟨0,[],[],[],[]⟩⟩
instance:Inhabited Redir:=⟨⟨0,0,0,default,false⟩⟩
mutual
def Cmd.cells:Cmd→List PV
 | ⟨a1,a2,a3,a4,a5,a6⟩=>[.int .i64 a1,.int .i64 a2,.str a3,.slice (Word.pvs a4),.slice (Redir.pvs a5),.slice (Cmd.pvs a6)]
def Cmd.pvs:List Cmd→List PV
 | []=>[]
 | x::r=>PV.agg x.cells::Cmd.pvs r
def Word.cells:Word→List PV
 | ⟨a1,a2,a3,a4,a5⟩=>[.int .i64 a1,.str a2,.str a3,.slice (Word.pvs a4),.slice (Cmd.pvs a5)]
def Word.pvs:List Word→List PV
 | []=>[]
 | x::r=>PV.agg x.cells::Word.pvs r
def Redir.cells:Redir→List PV
 | ⟨a1,a2,a3,⟨a4,a5,a6,a7,a8⟩,a9⟩=>[.int .i64 a1,.int .i64 a2,.int .i64 a3,.int .i64 a4,.str a5,.str a6,.slice (Word.pvs a7),.slice (Cmd.pvs a8),.bool a9]
def Redir.pvs:List Redir→List PV
 | []=>[]
 | x::r=>PV.agg x.cells::Redir.pvs r
end
def Cmd.pv(x:Cmd):PV:=.agg x.cells
theorem Cmd.pvs_eq:∀xs:List Cmd,Cmd.pvs xs=xs.map Cmd.pv
 | []=>by rw[Cmd.pvs];rfl
 | x::r=>by rw[Cmd.pvs,Cmd.pvs_eq r];rfl
def Word.pv(x:Word):PV:=.agg x.cells
theorem Word.pvs_eq:∀xs:List Word,Word.pvs xs=xs.map Word.pv
 | []=>by rw[Word.pvs];rfl
 | x::r=>by rw[Word.pvs,Word.pvs_eq r];rfl
def Redir.pv(x:Redir):PV:=.agg x.cells
theorem Redir.pvs_eq:∀xs:List Redir,Redir.pvs xs=xs.map Redir.pv
 | []=>by rw[Redir.pvs];rfl
 | x::r=>by rw[Redir.pvs,Redir.pvs_eq r];rfl
theorem Cmd.pv_eq(x:Cmd):x.pv=.agg [.int .i64 x.kind_,.int .i64 x.at_,.str x.name_,.slice (List.map Word.pv x.words_),.slice (List.map Redir.pv x.redirs_),.slice (List.map Cmd.pv x.kids_)]:=by
 obtain⟨a1,a2,a3,a4,a5,a6⟩:=x
 simp only[Cmd.pv,Cmd.cells,Cmd.pvs_eq,Word.pvs_eq,Redir.pvs_eq]
theorem Word.pv_eq(x:Word):x.pv=.agg [.int .i64 x.kind_,.str x.text_,.str x.quoted_,.slice (List.map Word.pv x.words_),.slice (List.map Cmd.pv x.cmd_)]:=by
 obtain⟨a1,a2,a3,a4,a5⟩:=x
 simp only[Word.pv,Word.cells,Cmd.pvs_eq,Word.pvs_eq,Redir.pvs_eq]
theorem Redir.pv_eq(x:Redir):x.pv=.agg [.int .i64 x.kind_,.int .i64 x.fd_,.int .i64 x.from_,.int .i64 x.word_.kind_,.str x.word_.text_,.str x.word_.quoted_,.slice (List.map Word.pv x.word_.words_),.slice (List.map Cmd.pv x.word_.cmd_),.bool x.raw_]:=by
 obtain⟨a1,a2,a3,⟨a4,a5,a6,a7,a8⟩,a9⟩:=x
 simp only[Redir.pv,Redir.cells,Cmd.pvs_eq,Word.pvs_eq,Redir.pvs_eq]
mutual
theorem Cmd.cinj:∀ (x y:Cmd),x.cells=y.cells→x=y
 | ⟨a1,a2,a3,a4,a5,a6⟩,⟨b1,b2,b3,b4,b5,b6⟩,h=>by
   simp only[Cmd.cells,List.cons.injEq,PV.slice.injEq,and_true]at h
   obtain⟨h1,h2,h3,h4,h5,h6⟩:=h
   cases(int_inj h1)
   cases(int_inj h2)
   cases(str_inj h3)
   cases Word.injs _ _ h4
   cases Redir.injs _ _ h5
   cases Cmd.injs _ _ h6
   rfl
theorem Cmd.injs:∀ (x y:List Cmd),Cmd.pvs x=Cmd.pvs y→x=y
 | [],[],_=>rfl
 | [],y::ys,h=>by simp[Cmd.pvs]at h
 | x::xs,[],h=>by simp[Cmd.pvs]at h
 | x::xs,y::ys,h=>by
   simp only[Cmd.pvs,List.cons.injEq,PV.agg.injEq]at h
   rw[Cmd.cinj x y h.1,Cmd.injs xs ys h.2]
theorem Word.cinj:∀ (x y:Word),x.cells=y.cells→x=y
 | ⟨a1,a2,a3,a4,a5⟩,⟨b1,b2,b3,b4,b5⟩,h=>by
   simp only[Word.cells,List.cons.injEq,PV.slice.injEq,and_true]at h
   obtain⟨h1,h2,h3,h4,h5⟩:=h
   cases(int_inj h1)
   cases(str_inj h2)
   cases(str_inj h3)
   cases Word.injs _ _ h4
   cases Cmd.injs _ _ h5
   rfl
theorem Word.injs:∀ (x y:List Word),Word.pvs x=Word.pvs y→x=y
 | [],[],_=>rfl
 | [],y::ys,h=>by simp[Word.pvs]at h
 | x::xs,[],h=>by simp[Word.pvs]at h
 | x::xs,y::ys,h=>by
   simp only[Word.pvs,List.cons.injEq,PV.agg.injEq]at h
   rw[Word.cinj x y h.1,Word.injs xs ys h.2]
theorem Redir.cinj:∀ (x y:Redir),x.cells=y.cells→x=y
 | ⟨a1,a2,a3,⟨a4,a5,a6,a7,a8⟩,a9⟩,⟨b1,b2,b3,⟨b4,b5,b6,b7,b8⟩,b9⟩,h=>by
   simp only[Redir.cells,List.cons.injEq,PV.slice.injEq,and_true]at h
   obtain⟨h1,h2,h3,h4,h5,h6,h7,h8,h9⟩:=h
   cases(int_inj h1)
   cases(int_inj h2)
   cases(int_inj h3)
   cases(int_inj h4)
   cases(str_inj h5)
   cases(str_inj h6)
   cases Word.injs _ _ h7
   cases Cmd.injs _ _ h8
   cases(bool_inj h9)
   rfl
theorem Redir.injs:∀ (x y:List Redir),Redir.pvs x=Redir.pvs y→x=y
 | [],[],_=>rfl
 | [],y::ys,h=>by simp[Redir.pvs]at h
 | x::xs,[],h=>by simp[Redir.pvs]at h
 | x::xs,y::ys,h=>by
   simp only[Redir.pvs,List.cons.injEq,PV.agg.injEq]at h
   rw[Redir.cinj x y h.1,Redir.injs xs ys h.2]
end
theorem Cmd.inj{x y:Cmd}(h:x.pv=y.pv):x=y:=Cmd.cinj x y (PV.agg.inj h)
theorem Cmd.injA{x y:Cmd}(h:PV.agg [.int .i64 (x.kind_),.int .i64 (x.at_),.str (x.name_),.slice (List.map Word.pv (x.words_)),.slice (List.map Redir.pv (x.redirs_)),.slice (List.map Cmd.pv (x.kids_))]=PV.agg [.int .i64 (y.kind_),.int .i64 (y.at_),.str (y.name_),.slice (List.map Word.pv (y.words_)),.slice (List.map Redir.pv (y.redirs_)),.slice (List.map Cmd.pv (y.kids_))]):x=y:=Cmd.inj ((Cmd.pv_eq x).trans (h.trans (Cmd.pv_eq y).symm))
theorem Cmd.all(xs:List Cmd):((xs.map Cmd.pv).all fun z=>z.cells.length==6)=true:=by
 simp[Cmd.pv_eq,PV.cells]
theorem Word.inj{x y:Word}(h:x.pv=y.pv):x=y:=Word.cinj x y (PV.agg.inj h)
theorem Word.injA{x y:Word}(h:PV.agg [.int .i64 (x.kind_),.str (x.text_),.str (x.quoted_),.slice (List.map Word.pv (x.words_)),.slice (List.map Cmd.pv (x.cmd_))]=PV.agg [.int .i64 (y.kind_),.str (y.text_),.str (y.quoted_),.slice (List.map Word.pv (y.words_)),.slice (List.map Cmd.pv (y.cmd_))]):x=y:=Word.inj ((Word.pv_eq x).trans (h.trans (Word.pv_eq y).symm))
theorem Word.all(xs:List Word):((xs.map Word.pv).all fun z=>z.cells.length==5)=true:=by
 simp[Word.pv_eq,PV.cells]
theorem Redir.inj{x y:Redir}(h:x.pv=y.pv):x=y:=Redir.cinj x y (PV.agg.inj h)
theorem Redir.injA{x y:Redir}(h:PV.agg [.int .i64 (x.kind_),.int .i64 (x.fd_),.int .i64 (x.from_),.int .i64 (x.word_.kind_),.str (x.word_.text_),.str (x.word_.quoted_),.slice (List.map Word.pv (x.word_.words_)),.slice (List.map Cmd.pv (x.word_.cmd_)),.bool (x.raw_)]=PV.agg [.int .i64 (y.kind_),.int .i64 (y.fd_),.int .i64 (y.from_),.int .i64 (y.word_.kind_),.str (y.word_.text_),.str (y.word_.quoted_),.slice (List.map Word.pv (y.word_.words_)),.slice (List.map Cmd.pv (y.word_.cmd_)),.bool (y.raw_)]):x=y:=Redir.inj ((Redir.pv_eq x).trans (h.trans (Redir.pv_eq y).symm))
def P50(xs:List Word):PV:=.slice (xs.map Word.pv)
theorem P50_eq(xs:List Word):P50 xs=.slice (xs.map Word.pv):=rfl
theorem P50_inj{x y:List Word}(h:P50 x=P50 y):x=y:=map_inj_of (fun _ _=>Word.inj) (PV.slice.inj h)
def P51(xs:List Redir):PV:=.slice (xs.map Redir.pv)
theorem P51_eq(xs:List Redir):P51 xs=.slice (xs.map Redir.pv):=rfl
theorem P51_inj{x y:List Redir}(h:P51 x=P51 y):x=y:=map_inj_of (fun _ _=>Redir.inj) (PV.slice.inj h)
def P46(xs:List Cmd):PV:=.slice (xs.map Cmd.pv)
theorem P46_eq(xs:List Cmd):P46 xs=.slice (xs.map Cmd.pv):=rfl
theorem P46_inj{x y:List Cmd}(h:P46 x=P46 y):x=y:=map_inj_of (fun _ _=>Cmd.inj) (PV.slice.inj h)
def P54(xs:List Str):PV:=.slice (xs.map PV.str)
theorem P54_eq(xs:List Str):P54 xs=.slice (xs.map PV.str):=rfl
theorem P54_inj{x y:List Str}(h:P54 x=P54 y):x=y:=map_inj_of (fun _ _=>str_inj) (PV.slice.inj h)
structure Var where
 id_:Int
 name_:Str
 values_:List Str
instance:Inhabited Var:=⟨⟨0,[],[]⟩⟩
def Var.pv(x:Var):PV:=.agg [.int .i64 x.id_,.str x.name_,.slice (List.map PV.str x.values_)]
theorem Var.pv_eq(x:Var):x.pv=.agg [.int .i64 x.id_,.str x.name_,.slice (List.map PV.str x.values_)]:=rfl
theorem Var.inj{x y:Var}(h:x.pv=y.pv):x=y:=by
 obtain⟨a1,a2,a3⟩:=x
 obtain⟨b1,b2,b3⟩:=y
 simp only[Var.pv,PV.agg.injEq,List.cons.injEq,and_true]at h
 obtain⟨h1,h2,h3⟩:=h
 cases(int_inj h1)
 cases(str_inj h2)
 cases(map_inj_of (fun _ _=>str_inj) (PV.slice.inj h3))
 rfl
def P324(xs:List Var):PV:=.slice (xs.map Var.pv)
theorem P324_eq(xs:List Var):P324 xs=.slice (xs.map Var.pv):=rfl
theorem P324_inj{x y:List Var}(h:P324 x=P324 y):x=y:=map_inj_of (fun _ _=>Var.inj) (PV.slice.inj h)
structure GEnv where
 id_:Int
 next_:Int
 vars_:List Var
instance:Inhabited GEnv:=⟨⟨0,0,[]⟩⟩
def GEnv.pv(x:GEnv):PV:=.agg [.int .i64 x.id_,.int .i64 x.next_,.slice (List.map Var.pv x.vars_)]
theorem GEnv.pv_eq(x:GEnv):x.pv=.agg [.int .i64 x.id_,.int .i64 x.next_,.slice (List.map Var.pv x.vars_)]:=rfl
theorem GEnv.inj{x y:GEnv}(h:x.pv=y.pv):x=y:=by
 obtain⟨a1,a2,a3⟩:=x
 obtain⟨b1,b2,b3⟩:=y
 simp only[GEnv.pv,PV.agg.injEq,List.cons.injEq,and_true]at h
 obtain⟨h1,h2,h3⟩:=h
 cases(int_inj h1)
 cases(int_inj h2)
 cases(map_inj_of (fun _ _=>Var.inj) (PV.slice.inj h3))
 rfl
structure GValue where
 text_:Str
 marks_:Str
instance:Inhabited GValue:=⟨⟨[],[]⟩⟩
def GValue.pv(x:GValue):PV:=.agg [.str x.text_,.str x.marks_]
theorem GValue.pv_eq(x:GValue):x.pv=.agg [.str x.text_,.str x.marks_]:=rfl
theorem GValue.inj{x y:GValue}(h:x.pv=y.pv):x=y:=by
 obtain⟨a1,a2⟩:=x
 obtain⟨b1,b2⟩:=y
 simp only[GValue.pv,PV.agg.injEq,List.cons.injEq,and_true]at h
 obtain⟨h1,h2⟩:=h
 cases(str_inj h1)
 cases(str_inj h2)
 rfl
def P59(xs:List Int):PV:=.slice (xs.map (PV.int .i64))
theorem P59_eq(xs:List Int):P59 xs=.slice (xs.map (PV.int .i64)):=rfl
theorem P59_inj{x y:List Int}(h:P59 x=P59 y):x=y:=map_inj_of (fun _ _=>int_inj) (PV.slice.inj h)
structure Qid where
 type_:Int
 vers_:Int
 path_:Int
instance:Inhabited Qid:=⟨⟨0,0,0⟩⟩
def Qid.pv(x:Qid):PV:=.agg [.int .i64 x.type_,.int .i64 x.vers_,.int .i64 x.path_]
theorem Qid.pv_eq(x:Qid):x.pv=.agg [.int .i64 x.type_,.int .i64 x.vers_,.int .i64 x.path_]:=rfl
theorem Qid.inj{x y:Qid}(h:x.pv=y.pv):x=y:=by
 obtain⟨a1,a2,a3⟩:=x
 obtain⟨b1,b2,b3⟩:=y
 simp only[Qid.pv,PV.agg.injEq,List.cons.injEq,and_true]at h
 obtain⟨h1,h2,h3⟩:=h
 cases(int_inj h1)
 cases(int_inj h2)
 cases(int_inj h3)
 rfl
def P66(xs:List Qid):PV:=.slice (xs.map Qid.pv)
theorem P66_eq(xs:List Qid):P66 xs=.slice (xs.map Qid.pv):=rfl
theorem P66_inj{x y:List Qid}(h:P66 x=P66 y):x=y:=map_inj_of (fun _ _=>Qid.inj) (PV.slice.inj h)
structure Dir where
 type_:Int
 dev_:Int
 qid_:Qid
 mode_:Int
 atime_:Int
 mtime_:Int
 length_:Int
 name_:Str
 uid_:Str
 gid_:Str
 muid_:Str
instance:Inhabited Dir:=⟨⟨0,0,default,0,0,0,0,[],[],[],[]⟩⟩
def Dir.pv(x:Dir):PV:=.agg [.int .i64 x.type_,.int .i64 x.dev_,.int .i64 x.qid_.type_,.int .i64 x.qid_.vers_,.int .i64 x.qid_.path_,.int .i64 x.mode_,.int .i64 x.atime_,.int .i64 x.mtime_,.int .i64 x.length_,.str x.name_,.str x.uid_,.str x.gid_,.str x.muid_]
theorem Dir.pv_eq(x:Dir):x.pv=.agg [.int .i64 x.type_,.int .i64 x.dev_,.int .i64 x.qid_.type_,.int .i64 x.qid_.vers_,.int .i64 x.qid_.path_,.int .i64 x.mode_,.int .i64 x.atime_,.int .i64 x.mtime_,.int .i64 x.length_,.str x.name_,.str x.uid_,.str x.gid_,.str x.muid_]:=rfl
theorem Dir.inj{x y:Dir}(h:x.pv=y.pv):x=y:=by
 obtain⟨a1,a2,⟨a3,a4,a5⟩,a6,a7,a8,a9,a10,a11,a12,a13⟩:=x
 obtain⟨b1,b2,⟨b3,b4,b5⟩,b6,b7,b8,b9,b10,b11,b12,b13⟩:=y
 simp only[Dir.pv,PV.agg.injEq,List.cons.injEq,and_true]at h
 obtain⟨h1,h2,h3,h4,h5,h6,h7,h8,h9,h10,h11,h12,h13⟩:=h
 cases(int_inj h1)
 cases(int_inj h2)
 cases(int_inj h3)
 cases(int_inj h4)
 cases(int_inj h5)
 cases(int_inj h6)
 cases(int_inj h7)
 cases(int_inj h8)
 cases(int_inj h9)
 cases(str_inj h10)
 cases(str_inj h11)
 cases(str_inj h12)
 cases(str_inj h13)
 rfl
structure Msg where
 kind_:Int
 tag_:Int
 fid_:Int
 newFid_:Int
 authFid_:Int
 oldTag_:Int
 msize_:Int
 version_:Str
 user_:Str
 attach_:Str
 names_:List Str
 qids_:List Qid
 qid_:Qid
 iounit_:Int
 mode_:Int
 perm_:Int
 name_:Str
 offset_:Int
 count_:Int
 data_:Str
 stat_:Dir
 err_:Int
 lease_:Int
 term_:Int
 session_:Str
instance:Inhabited Msg:=⟨⟨0,0,0,0,0,0,0,[],[],[],[],[],default,0,0,0,[],0,0,[],default,0,0,0,[]⟩⟩
def Msg.pv(x:Msg):PV:=.agg [.int .i64 x.kind_,.int .i64 x.tag_,.int .i64 x.fid_,.int .i64 x.newFid_,.int .i64 x.authFid_,.int .i64 x.oldTag_,.int .i64 x.msize_,.str x.version_,.str x.user_,.str x.attach_,.slice (List.map PV.str x.names_),.slice (List.map Qid.pv x.qids_),.int .i64 x.qid_.type_,.int .i64 x.qid_.vers_,.int .i64 x.qid_.path_,.int .i64 x.iounit_,.int .i64 x.mode_,.int .i64 x.perm_,.str x.name_,.int .i64 x.offset_,.int .i64 x.count_,.str x.data_,.int .i64 x.stat_.type_,.int .i64 x.stat_.dev_,.int .i64 x.stat_.qid_.type_,.int .i64 x.stat_.qid_.vers_,.int .i64 x.stat_.qid_.path_,.int .i64 x.stat_.mode_,.int .i64 x.stat_.atime_,.int .i64 x.stat_.mtime_,.int .i64 x.stat_.length_,.str x.stat_.name_,.str x.stat_.uid_,.str x.stat_.gid_,.str x.stat_.muid_,.int .i64 x.err_,.int .i64 x.lease_,.int .i64 x.term_,.str x.session_]
theorem Msg.pv_eq(x:Msg):x.pv=.agg [.int .i64 x.kind_,.int .i64 x.tag_,.int .i64 x.fid_,.int .i64 x.newFid_,.int .i64 x.authFid_,.int .i64 x.oldTag_,.int .i64 x.msize_,.str x.version_,.str x.user_,.str x.attach_,.slice (List.map PV.str x.names_),.slice (List.map Qid.pv x.qids_),.int .i64 x.qid_.type_,.int .i64 x.qid_.vers_,.int .i64 x.qid_.path_,.int .i64 x.iounit_,.int .i64 x.mode_,.int .i64 x.perm_,.str x.name_,.int .i64 x.offset_,.int .i64 x.count_,.str x.data_,.int .i64 x.stat_.type_,.int .i64 x.stat_.dev_,.int .i64 x.stat_.qid_.type_,.int .i64 x.stat_.qid_.vers_,.int .i64 x.stat_.qid_.path_,.int .i64 x.stat_.mode_,.int .i64 x.stat_.atime_,.int .i64 x.stat_.mtime_,.int .i64 x.stat_.length_,.str x.stat_.name_,.str x.stat_.uid_,.str x.stat_.gid_,.str x.stat_.muid_,.int .i64 x.err_,.int .i64 x.lease_,.int .i64 x.term_,.str x.session_]:=rfl
theorem Msg.inj{x y:Msg}(h:x.pv=y.pv):x=y:=by
 obtain⟨a1,a2,a3,a4,a5,a6,a7,a8,a9,a10,a11,a12,⟨a13,a14,a15⟩,a16,a17,a18,a19,a20,a21,a22,⟨a23,a24,⟨a25,a26,a27⟩,a28,a29,a30,a31,a32,a33,a34,a35⟩,a36,a37,a38,a39⟩:=x
 obtain⟨b1,b2,b3,b4,b5,b6,b7,b8,b9,b10,b11,b12,⟨b13,b14,b15⟩,b16,b17,b18,b19,b20,b21,b22,⟨b23,b24,⟨b25,b26,b27⟩,b28,b29,b30,b31,b32,b33,b34,b35⟩,b36,b37,b38,b39⟩:=y
 simp only[Msg.pv,PV.agg.injEq,List.cons.injEq,and_true]at h
 obtain⟨h1,h2,h3,h4,h5,h6,h7,h8,h9,h10,h11,h12,h13,h14,h15,h16,h17,h18,h19,h20,h21,h22,h23,h24,h25,h26,h27,h28,h29,h30,h31,h32,h33,h34,h35,h36,h37,h38,h39⟩:=h
 cases(int_inj h1)
 cases(int_inj h2)
 cases(int_inj h3)
 cases(int_inj h4)
 cases(int_inj h5)
 cases(int_inj h6)
 cases(int_inj h7)
 cases(str_inj h8)
 cases(str_inj h9)
 cases(str_inj h10)
 cases(map_inj_of (fun _ _=>str_inj) (PV.slice.inj h11))
 cases(map_inj_of (fun _ _=>Qid.inj) (PV.slice.inj h12))
 cases(int_inj h13)
 cases(int_inj h14)
 cases(int_inj h15)
 cases(int_inj h16)
 cases(int_inj h17)
 cases(int_inj h18)
 cases(str_inj h19)
 cases(int_inj h20)
 cases(int_inj h21)
 cases(str_inj h22)
 cases(int_inj h23)
 cases(int_inj h24)
 cases(int_inj h25)
 cases(int_inj h26)
 cases(int_inj h27)
 cases(int_inj h28)
 cases(int_inj h29)
 cases(int_inj h30)
 cases(int_inj h31)
 cases(str_inj h32)
 cases(str_inj h33)
 cases(str_inj h34)
 cases(str_inj h35)
 cases(int_inj h36)
 cases(int_inj h37)
 cases(int_inj h38)
 cases(str_inj h39)
 rfl
structure Call where
 req_:Msg
 flush_:Int
instance:Inhabited Call:=⟨⟨default,0⟩⟩
def Call.pv(x:Call):PV:=.agg [.int .i64 x.req_.kind_,.int .i64 x.req_.tag_,.int .i64 x.req_.fid_,.int .i64 x.req_.newFid_,.int .i64 x.req_.authFid_,.int .i64 x.req_.oldTag_,.int .i64 x.req_.msize_,.str x.req_.version_,.str x.req_.user_,.str x.req_.attach_,.slice (List.map PV.str x.req_.names_),.slice (List.map Qid.pv x.req_.qids_),.int .i64 x.req_.qid_.type_,.int .i64 x.req_.qid_.vers_,.int .i64 x.req_.qid_.path_,.int .i64 x.req_.iounit_,.int .i64 x.req_.mode_,.int .i64 x.req_.perm_,.str x.req_.name_,.int .i64 x.req_.offset_,.int .i64 x.req_.count_,.str x.req_.data_,.int .i64 x.req_.stat_.type_,.int .i64 x.req_.stat_.dev_,.int .i64 x.req_.stat_.qid_.type_,.int .i64 x.req_.stat_.qid_.vers_,.int .i64 x.req_.stat_.qid_.path_,.int .i64 x.req_.stat_.mode_,.int .i64 x.req_.stat_.atime_,.int .i64 x.req_.stat_.mtime_,.int .i64 x.req_.stat_.length_,.str x.req_.stat_.name_,.str x.req_.stat_.uid_,.str x.req_.stat_.gid_,.str x.req_.stat_.muid_,.int .i64 x.req_.err_,.int .i64 x.req_.lease_,.int .i64 x.req_.term_,.str x.req_.session_,.int .i64 x.flush_]
theorem Call.pv_eq(x:Call):x.pv=.agg [.int .i64 x.req_.kind_,.int .i64 x.req_.tag_,.int .i64 x.req_.fid_,.int .i64 x.req_.newFid_,.int .i64 x.req_.authFid_,.int .i64 x.req_.oldTag_,.int .i64 x.req_.msize_,.str x.req_.version_,.str x.req_.user_,.str x.req_.attach_,.slice (List.map PV.str x.req_.names_),.slice (List.map Qid.pv x.req_.qids_),.int .i64 x.req_.qid_.type_,.int .i64 x.req_.qid_.vers_,.int .i64 x.req_.qid_.path_,.int .i64 x.req_.iounit_,.int .i64 x.req_.mode_,.int .i64 x.req_.perm_,.str x.req_.name_,.int .i64 x.req_.offset_,.int .i64 x.req_.count_,.str x.req_.data_,.int .i64 x.req_.stat_.type_,.int .i64 x.req_.stat_.dev_,.int .i64 x.req_.stat_.qid_.type_,.int .i64 x.req_.stat_.qid_.vers_,.int .i64 x.req_.stat_.qid_.path_,.int .i64 x.req_.stat_.mode_,.int .i64 x.req_.stat_.atime_,.int .i64 x.req_.stat_.mtime_,.int .i64 x.req_.stat_.length_,.str x.req_.stat_.name_,.str x.req_.stat_.uid_,.str x.req_.stat_.gid_,.str x.req_.stat_.muid_,.int .i64 x.req_.err_,.int .i64 x.req_.lease_,.int .i64 x.req_.term_,.str x.req_.session_,.int .i64 x.flush_]:=rfl
theorem Call.inj{x y:Call}(h:x.pv=y.pv):x=y:=by
 obtain⟨⟨a1,a2,a3,a4,a5,a6,a7,a8,a9,a10,a11,a12,⟨a13,a14,a15⟩,a16,a17,a18,a19,a20,a21,a22,⟨a23,a24,⟨a25,a26,a27⟩,a28,a29,a30,a31,a32,a33,a34,a35⟩,a36,a37,a38,a39⟩,a40⟩:=x
 obtain⟨⟨b1,b2,b3,b4,b5,b6,b7,b8,b9,b10,b11,b12,⟨b13,b14,b15⟩,b16,b17,b18,b19,b20,b21,b22,⟨b23,b24,⟨b25,b26,b27⟩,b28,b29,b30,b31,b32,b33,b34,b35⟩,b36,b37,b38,b39⟩,b40⟩:=y
 simp only[Call.pv,PV.agg.injEq,List.cons.injEq,and_true]at h
 obtain⟨h1,h2,h3,h4,h5,h6,h7,h8,h9,h10,h11,h12,h13,h14,h15,h16,h17,h18,h19,h20,h21,h22,h23,h24,h25,h26,h27,h28,h29,h30,h31,h32,h33,h34,h35,h36,h37,h38,h39,h40⟩:=h
 cases(int_inj h1)
 cases(int_inj h2)
 cases(int_inj h3)
 cases(int_inj h4)
 cases(int_inj h5)
 cases(int_inj h6)
 cases(int_inj h7)
 cases(str_inj h8)
 cases(str_inj h9)
 cases(str_inj h10)
 cases(map_inj_of (fun _ _=>str_inj) (PV.slice.inj h11))
 cases(map_inj_of (fun _ _=>Qid.inj) (PV.slice.inj h12))
 cases(int_inj h13)
 cases(int_inj h14)
 cases(int_inj h15)
 cases(int_inj h16)
 cases(int_inj h17)
 cases(int_inj h18)
 cases(str_inj h19)
 cases(int_inj h20)
 cases(int_inj h21)
 cases(str_inj h22)
 cases(int_inj h23)
 cases(int_inj h24)
 cases(int_inj h25)
 cases(int_inj h26)
 cases(int_inj h27)
 cases(int_inj h28)
 cases(int_inj h29)
 cases(int_inj h30)
 cases(int_inj h31)
 cases(str_inj h32)
 cases(str_inj h33)
 cases(str_inj h34)
 cases(str_inj h35)
 cases(int_inj h36)
 cases(int_inj h37)
 cases(int_inj h38)
 cases(str_inj h39)
 cases(int_inj h40)
 rfl
theorem Call.all(xs:List Call):((xs.map Call.pv).all fun z=>z.cells.length==40)=true:=by
 simp[Call.pv,PV.cells]
def P60(xs:List Call):PV:=.slice (xs.map Call.pv)
theorem P60_eq(xs:List Call):P60 xs=.slice (xs.map Call.pv):=rfl
theorem P60_inj{x y:List Call}(h:P60 x=P60 y):x=y:=map_inj_of (fun _ _=>Call.inj) (PV.slice.inj h)
structure Client where
 up_:Bool
 msize_:Int
 session_:Str
 fids_:List Int
 calls_:List Call
 partial_:Str
instance:Inhabited Client:=⟨⟨false,0,[],[],[],[]⟩⟩
def Client.pv(x:Client):PV:=.agg [.bool x.up_,.int .i64 x.msize_,.str x.session_,.slice (List.map (PV.int .i64) x.fids_),.slice (List.map Call.pv x.calls_),.str x.partial_]
theorem Client.pv_eq(x:Client):x.pv=.agg [.bool x.up_,.int .i64 x.msize_,.str x.session_,.slice (List.map (PV.int .i64) x.fids_),.slice (List.map Call.pv x.calls_),.str x.partial_]:=rfl
theorem Client.inj{x y:Client}(h:x.pv=y.pv):x=y:=by
 obtain⟨a1,a2,a3,a4,a5,a6⟩:=x
 obtain⟨b1,b2,b3,b4,b5,b6⟩:=y
 simp only[Client.pv,PV.agg.injEq,List.cons.injEq,and_true]at h
 obtain⟨h1,h2,h3,h4,h5,h6⟩:=h
 cases(bool_inj h1)
 cases(int_inj h2)
 cases(str_inj h3)
 cases(map_inj_of (fun _ _=>int_inj) (PV.slice.inj h4))
 cases(map_inj_of (fun _ _=>Call.inj) (PV.slice.inj h5))
 cases(str_inj h6)
 rfl
structure S274 where
 e0_:Int
 e1_:Int
 e2_:Int
 e3_:Int
 e4_:Int
 e5_:Int
 e6_:Int
 e7_:Int
 e8_:Int
 e9_:Int
 e10_:Int
 e11_:Int
 e12_:Int
instance:Inhabited S274:=⟨⟨0,0,0,0,0,0,0,0,0,0,0,0,0⟩⟩
def S274.pv(x:S274):PV:=.agg [.int .i64 x.e0_,.int .i64 x.e1_,.int .i64 x.e2_,.int .i64 x.e3_,.int .i64 x.e4_,.int .i64 x.e5_,.int .i64 x.e6_,.int .i64 x.e7_,.int .i64 x.e8_,.int .i64 x.e9_,.int .i64 x.e10_,.int .i64 x.e11_,.int .i64 x.e12_]
theorem S274.pv_eq(x:S274):x.pv=.agg [.int .i64 x.e0_,.int .i64 x.e1_,.int .i64 x.e2_,.int .i64 x.e3_,.int .i64 x.e4_,.int .i64 x.e5_,.int .i64 x.e6_,.int .i64 x.e7_,.int .i64 x.e8_,.int .i64 x.e9_,.int .i64 x.e10_,.int .i64 x.e11_,.int .i64 x.e12_]:=rfl
theorem S274.inj{x y:S274}(h:x.pv=y.pv):x=y:=by
 obtain⟨a1,a2,a3,a4,a5,a6,a7,a8,a9,a10,a11,a12,a13⟩:=x
 obtain⟨b1,b2,b3,b4,b5,b6,b7,b8,b9,b10,b11,b12,b13⟩:=y
 simp only[S274.pv,PV.agg.injEq,List.cons.injEq,and_true]at h
 obtain⟨h1,h2,h3,h4,h5,h6,h7,h8,h9,h10,h11,h12,h13⟩:=h
 cases(int_inj h1)
 cases(int_inj h2)
 cases(int_inj h3)
 cases(int_inj h4)
 cases(int_inj h5)
 cases(int_inj h6)
 cases(int_inj h7)
 cases(int_inj h8)
 cases(int_inj h9)
 cases(int_inj h10)
 cases(int_inj h11)
 cases(int_inj h12)
 cases(int_inj h13)
 rfl
structure S276 where
 e0_:Str
 e1_:Str
 e2_:Str
 e3_:Str
 e4_:Str
 e5_:Str
instance:Inhabited S276:=⟨⟨[],[],[],[],[],[]⟩⟩
def S276.pv(x:S276):PV:=.agg [.str x.e0_,.str x.e1_,.str x.e2_,.str x.e3_,.str x.e4_,.str x.e5_]
theorem S276.pv_eq(x:S276):x.pv=.agg [.str x.e0_,.str x.e1_,.str x.e2_,.str x.e3_,.str x.e4_,.str x.e5_]:=rfl
theorem S276.inj{x y:S276}(h:x.pv=y.pv):x=y:=by
 obtain⟨a1,a2,a3,a4,a5,a6⟩:=x
 obtain⟨b1,b2,b3,b4,b5,b6⟩:=y
 simp only[S276.pv,PV.agg.injEq,List.cons.injEq,and_true]at h
 obtain⟨h1,h2,h3,h4,h5,h6⟩:=h
 cases(str_inj h1)
 cases(str_inj h2)
 cases(str_inj h3)
 cases(str_inj h4)
 cases(str_inj h5)
 cases(str_inj h6)
 rfl
def P81(xs:Option (List Plumb)):PV:=oPV Plumb.pv xs
theorem P81_eq(xs:Option (List Plumb)):P81 xs=oPV Plumb.pv xs:=rfl
theorem P81_inj{x y:Option (List Plumb)}(h:P81 x=P81 y):x=y:=oPV_inj (fun _ _=>Plumb.inj) h
structure Port where
 name_:Str
 queue_:Option (List Plumb)
 opens_:Int
instance:Inhabited Port:=⟨⟨[],none,0⟩⟩
def Port.pv(x:Port):PV:=.agg [.str x.name_,oPV Plumb.pv x.queue_,.int .i64 x.opens_]
theorem Port.pv_eq(x:Port):x.pv=.agg [.str x.name_,oPV Plumb.pv x.queue_,.int .i64 x.opens_]:=rfl
theorem Port.inj{x y:Port}(h:x.pv=y.pv):x=y:=by
 obtain⟨a1,a2,a3⟩:=x
 obtain⟨b1,b2,b3⟩:=y
 simp only[Port.pv,PV.agg.injEq,List.cons.injEq,and_true]at h
 obtain⟨h1,h2,h3⟩:=h
 cases(str_inj h1)
 cases(oPV_inj (fun _ _=>Plumb.inj) h2)
 cases(int_inj h3)
 rfl
theorem Port.all(xs:List Port):((xs.map Port.pv).all fun z=>z.cells.length==3)=true:=by
 simp[Port.pv,PV.cells]
structure Pattern where
 object_:Str
 verb_:Str
 arg_:Str
instance:Inhabited Pattern:=⟨⟨[],[],[]⟩⟩
def Pattern.pv(x:Pattern):PV:=.agg [.str x.object_,.str x.verb_,.str x.arg_]
theorem Pattern.pv_eq(x:Pattern):x.pv=.agg [.str x.object_,.str x.verb_,.str x.arg_]:=rfl
theorem Pattern.inj{x y:Pattern}(h:x.pv=y.pv):x=y:=by
 obtain⟨a1,a2,a3⟩:=x
 obtain⟨b1,b2,b3⟩:=y
 simp only[Pattern.pv,PV.agg.injEq,List.cons.injEq,and_true]at h
 obtain⟨h1,h2,h3⟩:=h
 cases(str_inj h1)
 cases(str_inj h2)
 cases(str_inj h3)
 rfl
def P153(xs:List Pattern):PV:=.slice (xs.map Pattern.pv)
theorem P153_eq(xs:List Pattern):P153 xs=.slice (xs.map Pattern.pv):=rfl
theorem P153_inj{x y:List Pattern}(h:P153 x=P153 y):x=y:=map_inj_of (fun _ _=>Pattern.inj) (PV.slice.inj h)
structure Rule where
 lines_:List Pattern
instance:Inhabited Rule:=⟨⟨[]⟩⟩
def Rule.pv(x:Rule):PV:=.agg [.slice (List.map Pattern.pv x.lines_)]
theorem Rule.pv_eq(x:Rule):x.pv=.agg [.slice (List.map Pattern.pv x.lines_)]:=rfl
theorem Rule.inj{x y:Rule}(h:x.pv=y.pv):x=y:=by
 obtain⟨a1⟩:=x
 obtain⟨b1⟩:=y
 simp only[Rule.pv,PV.agg.injEq,List.cons.injEq,and_true]at h
 have h1:=h
 cases(map_inj_of (fun _ _=>Pattern.inj) (PV.slice.inj h1))
 rfl
def P29(xs:List Rule):PV:=.slice (xs.map Rule.pv)
theorem P29_eq(xs:List Rule):P29 xs=.slice (xs.map Rule.pv):=rfl
theorem P29_inj{x y:List Rule}(h:P29 x=P29 y):x=y:=map_inj_of (fun _ _=>Rule.inj) (PV.slice.inj h)
def P30(xs:List Port):PV:=.slice (xs.map Port.pv)
theorem P30_eq(xs:List Port):P30 xs=.slice (xs.map Port.pv):=rfl
theorem P30_inj{x y:List Port}(h:P30 x=P30 y):x=y:=map_inj_of (fun _ _=>Port.inj) (PV.slice.inj h)
structure Plumber where
 rules_:List Rule
 ports_:List Port
instance:Inhabited Plumber:=⟨⟨[],[]⟩⟩
def Plumber.pv(x:Plumber):PV:=.agg [.slice (List.map Rule.pv x.rules_),.slice (List.map Port.pv x.ports_)]
theorem Plumber.pv_eq(x:Plumber):x.pv=.agg [.slice (List.map Rule.pv x.rules_),.slice (List.map Port.pv x.ports_)]:=rfl
theorem Plumber.inj{x y:Plumber}(h:x.pv=y.pv):x=y:=by
 obtain⟨a1,a2⟩:=x
 obtain⟨b1,b2⟩:=y
 simp only[Plumber.pv,PV.agg.injEq,List.cons.injEq,and_true]at h
 obtain⟨h1,h2⟩:=h
 cases(map_inj_of (fun _ _=>Rule.inj) (PV.slice.inj h1))
 cases(map_inj_of (fun _ _=>Port.inj) (PV.slice.inj h2))
 rfl
def pfn:FuncId→Bool:=fun f=>[4,5,6,7,8,9,10,11,12,13,14,15,16,17,18,19,20,21,22,23,24,26,27,28,32,34,36,37,38,39,40,41,42,43,44,45,46,48,49,50,51,52,53,55,57,58,59,60,61,62,66,67,68,70,71,73,75,79,81,84,85,86,87,90,98,100,101,112,114,115,116,124,125,126,127,130,131,134,144,149,156,157,171,173,176,178,188,192,193,194,195,196,198,200,227,235,236,237,240,241,277,326].contains f
def TYS:=And.intro env_bT (
 And.intro env_pT (
 And.intro T_2 (
 And.intro T_3 (
 And.intro T_4 (
 And.intro T_5 (
 And.intro T_9 (
 And.intro T_22 (
 And.intro T_24 (
 And.intro T_26 (
 And.intro T_29 (
 And.intro T_30 (
 And.intro T_32 (
 And.intro T_46 (
 And.intro T_50 (
 And.intro T_51 (
 And.intro T_53 (
 And.intro T_54 (
 And.intro T_58 (
 And.intro T_59 (
 And.intro T_60 (
 And.intro T_62 (
 And.intro T_66 (
 And.intro T_68 (
 And.intro T_70 (
 And.intro T_72 (
 And.intro T_81 (
 And.intro T_83 (
 And.intro T_102 (
 And.intro T_108 (
 And.intro T_109 (
 And.intro T_113 (
 And.intro T_122 (
 And.intro T_125 (
 And.intro T_127 (
 And.intro T_131 (
 And.intro T_137 (
 And.intro T_139 (
 And.intro T_141 (
 And.intro T_152 (
 And.intro T_155 (
 And.intro T_172 (
 And.intro T_174 (
 And.intro T_178 (
 And.intro T_181 (
 And.intro T_200 (
 And.intro T_238 (
 And.intro T_252 (
 And.intro T_263 (
 And.intro T_265 (
 And.intro T_274 (
 And.intro T_276 (
 And.intro T_326 (
 And.intro ownT_22 (
 And.intro ownT_24 (
 And.intro ownT_30 (
 And.intro ownT_32 (
 And.intro ownT_46 (
 And.intro ownT_50 (
 And.intro ownT_53 (
 And.intro ownT_54 (
 And.intro ownT_58 (
 And.intro ownT_60 (
 And.intro ownT_62 (
 And.intro ownT_72 (
 And.intro ownT_81 (
 And.intro ownT_83 (
 And.intro ownT_102 (
 And.intro ownT_109 (
 And.intro ownT_113 (
 And.intro ownT_122 (
 And.intro ownT_127 (
 And.intro ownT_137 (
 And.intro ownT_174 (
 And.intro ownT_238 (
 And.intro ownT_265 (
 And.intro ownT_274 (
 And.intro ownT_276 (
 And.intro arT_32 (
 And.intro arT_53 (
 And.intro arT_174 (
 And.intro nfz_22 (
 And.intro nfz_30 (
 And.intro nfz_46 (
 And.intro nfz_50 (
 And.intro nfz_54 (
 And.intro nfz_81 (
 And.intro nfz_102 (
 And.intro eqT_3 (
 And.intro eqT_5 (
 And.intro eqT_9 (
 And.intro eqT_26 (
 And.intro eqT_68 (
 And.intro eqT_70 (
 And.intro eqT_137 (
 And.intro eqT_200 (
 And.intro eqT_274 (
 And.intro eqT_276 (
 And.intro @qf_238_0 (
 And.intro @qf_238_1 (
 And.intro @oPV_none (
 And.intro @oPV_some (
 And.intro @str_all (
 And.intro @int_all (
 And.intro @bool_all (
 And.intro @Attr.pv_eq (
 And.intro @P22_eq (
 And.intro @Plumb.pv_eq (
 And.intro @Token.pv_eq (
 And.intro @P50_eq (
 And.intro @Redir.pv_eq (
 And.intro @P51_eq (
 And.intro @Cmd.pv_eq (
 And.intro @P46_eq (
 And.intro @Word.pv_eq (
 And.intro @P54_eq (
 And.intro @Var.pv_eq (
 And.intro @P324_eq (
 And.intro @GEnv.pv_eq (
 And.intro @GValue.pv_eq (
 And.intro @P59_eq (
 And.intro @Qid.pv_eq (
 And.intro @P66_eq (
 And.intro @Dir.pv_eq (
 And.intro @Msg.pv_eq (
 And.intro @Call.pv_eq (
 And.intro @P60_eq (
 And.intro @Client.pv_eq (
 And.intro @S274.pv_eq (
 And.intro @S276.pv_eq (
 And.intro @P81_eq (
 And.intro @Port.pv_eq (
 And.intro @Pattern.pv_eq (
 And.intro @P153_eq (
 And.intro @Rule.pv_eq (
 And.intro @P29_eq (
 And.intro @P30_eq (
 And.intro @Plumber.pv_eq (
 And.intro @Attr.all (
 And.intro @Plumb.all (
 And.intro @Token.all (
 And.intro @Cmd.all (
 And.intro @Word.all (
 And.intro @Call.all (
 @Port.all))))))))))))))))))))))))))))))))))))))))))))))))))))))))))))))))))))))))))))))))))))))))))))))))))))))))))))))))))))))))))))))))))))))))))))))))
theorem str_iff(x y:List UInt8):(PV.str x=PV.str y)=(x=y):=PV.str.injEq x y
theorem int_iff(k:IntKind)(x y:Int):(PV.int k x=PV.int k y)=(x=y):=propext ⟨int_inj,fun h=>by rw[h]⟩
theorem bool_iff(x y:Bool):(PV.bool x=PV.bool y)=(x=y):=PV.bool.injEq x y
theorem slice_iff(x y:List PV):(PV.slice x=PV.slice y)=(x=y):=PV.slice.injEq x y
theorem maps_iff{α:Type}{f:α→PV}(hf:∀x y,f x=f y→x=y)(x y:List α):(List.map f x=List.map f y)=(x=y):=propext ⟨map_inj_of hf,fun h=>by rw[h]⟩
theorem Attr.iff(x y:Attr):(PV.agg [.str (x.name_),.str (x.value_),.bool (x.query_)]=PV.agg [.str (y.name_),.str (y.value_),.bool (y.query_)])=(x=y):=propext ⟨Attr.inj (x:=x) (y:=y),fun h=>by rw[h]⟩
theorem Plumb.iff(x y:Plumb):(PV.agg [.str (x.src_),.str (x.dst_),.str (x.dir_),.str (x.type_),.slice (List.map Attr.pv (x.attrs_)),.str (x.data_)]=PV.agg [.str (y.src_),.str (y.dst_),.str (y.dir_),.str (y.type_),.slice (List.map Attr.pv (y.attrs_)),.str (y.data_)])=(x=y):=propext ⟨Plumb.inj (x:=x) (y:=y),fun h=>by rw[h]⟩
theorem Token.iff(x y:Token):(PV.agg [.int .i64 (x.kind_),.int .i64 (x.at_),.str (x.text_),.str (x.quoted_)]=PV.agg [.int .i64 (y.kind_),.int .i64 (y.at_),.str (y.text_),.str (y.quoted_)])=(x=y):=propext ⟨Token.inj (x:=x) (y:=y),fun h=>by rw[h]⟩
theorem Redir.iff(x y:Redir):(PV.agg [.int .i64 (x.kind_),.int .i64 (x.fd_),.int .i64 (x.from_),.int .i64 (x.word_.kind_),.str (x.word_.text_),.str (x.word_.quoted_),.slice (List.map Word.pv (x.word_.words_)),.slice (List.map Cmd.pv (x.word_.cmd_)),.bool (x.raw_)]=PV.agg [.int .i64 (y.kind_),.int .i64 (y.fd_),.int .i64 (y.from_),.int .i64 (y.word_.kind_),.str (y.word_.text_),.str (y.word_.quoted_),.slice (List.map Word.pv (y.word_.words_)),.slice (List.map Cmd.pv (y.word_.cmd_)),.bool (y.raw_)])=(x=y):=propext ⟨Redir.injA (x:=x) (y:=y),fun h=>by rw[h]⟩
theorem Cmd.iff(x y:Cmd):(PV.agg [.int .i64 (x.kind_),.int .i64 (x.at_),.str (x.name_),.slice (List.map Word.pv (x.words_)),.slice (List.map Redir.pv (x.redirs_)),.slice (List.map Cmd.pv (x.kids_))]=PV.agg [.int .i64 (y.kind_),.int .i64 (y.at_),.str (y.name_),.slice (List.map Word.pv (y.words_)),.slice (List.map Redir.pv (y.redirs_)),.slice (List.map Cmd.pv (y.kids_))])=(x=y):=propext ⟨Cmd.injA (x:=x) (y:=y),fun h=>by rw[h]⟩
theorem Word.iff(x y:Word):(PV.agg [.int .i64 (x.kind_),.str (x.text_),.str (x.quoted_),.slice (List.map Word.pv (x.words_)),.slice (List.map Cmd.pv (x.cmd_))]=PV.agg [.int .i64 (y.kind_),.str (y.text_),.str (y.quoted_),.slice (List.map Word.pv (y.words_)),.slice (List.map Cmd.pv (y.cmd_))])=(x=y):=propext ⟨Word.injA (x:=x) (y:=y),fun h=>by rw[h]⟩
theorem Var.iff(x y:Var):(PV.agg [.int .i64 (x.id_),.str (x.name_),.slice (List.map PV.str (x.values_))]=PV.agg [.int .i64 (y.id_),.str (y.name_),.slice (List.map PV.str (y.values_))])=(x=y):=propext ⟨Var.inj (x:=x) (y:=y),fun h=>by rw[h]⟩
theorem GEnv.iff(x y:GEnv):(PV.agg [.int .i64 (x.id_),.int .i64 (x.next_),.slice (List.map Var.pv (x.vars_))]=PV.agg [.int .i64 (y.id_),.int .i64 (y.next_),.slice (List.map Var.pv (y.vars_))])=(x=y):=propext ⟨GEnv.inj (x:=x) (y:=y),fun h=>by rw[h]⟩
theorem GValue.iff(x y:GValue):(PV.agg [.str (x.text_),.str (x.marks_)]=PV.agg [.str (y.text_),.str (y.marks_)])=(x=y):=propext ⟨GValue.inj (x:=x) (y:=y),fun h=>by rw[h]⟩
theorem Qid.iff(x y:Qid):(PV.agg [.int .i64 (x.type_),.int .i64 (x.vers_),.int .i64 (x.path_)]=PV.agg [.int .i64 (y.type_),.int .i64 (y.vers_),.int .i64 (y.path_)])=(x=y):=propext ⟨Qid.inj (x:=x) (y:=y),fun h=>by rw[h]⟩
theorem Dir.iff(x y:Dir):(PV.agg [.int .i64 (x.type_),.int .i64 (x.dev_),.int .i64 (x.qid_.type_),.int .i64 (x.qid_.vers_),.int .i64 (x.qid_.path_),.int .i64 (x.mode_),.int .i64 (x.atime_),.int .i64 (x.mtime_),.int .i64 (x.length_),.str (x.name_),.str (x.uid_),.str (x.gid_),.str (x.muid_)]=PV.agg [.int .i64 (y.type_),.int .i64 (y.dev_),.int .i64 (y.qid_.type_),.int .i64 (y.qid_.vers_),.int .i64 (y.qid_.path_),.int .i64 (y.mode_),.int .i64 (y.atime_),.int .i64 (y.mtime_),.int .i64 (y.length_),.str (y.name_),.str (y.uid_),.str (y.gid_),.str (y.muid_)])=(x=y):=propext ⟨Dir.inj (x:=x) (y:=y),fun h=>by rw[h]⟩
theorem Msg.iff(x y:Msg):(PV.agg [.int .i64 (x.kind_),.int .i64 (x.tag_),.int .i64 (x.fid_),.int .i64 (x.newFid_),.int .i64 (x.authFid_),.int .i64 (x.oldTag_),.int .i64 (x.msize_),.str (x.version_),.str (x.user_),.str (x.attach_),.slice (List.map PV.str (x.names_)),.slice (List.map Qid.pv (x.qids_)),.int .i64 (x.qid_.type_),.int .i64 (x.qid_.vers_),.int .i64 (x.qid_.path_),.int .i64 (x.iounit_),.int .i64 (x.mode_),.int .i64 (x.perm_),.str (x.name_),.int .i64 (x.offset_),.int .i64 (x.count_),.str (x.data_),.int .i64 (x.stat_.type_),.int .i64 (x.stat_.dev_),.int .i64 (x.stat_.qid_.type_),.int .i64 (x.stat_.qid_.vers_),.int .i64 (x.stat_.qid_.path_),.int .i64 (x.stat_.mode_),.int .i64 (x.stat_.atime_),.int .i64 (x.stat_.mtime_),.int .i64 (x.stat_.length_),.str (x.stat_.name_),.str (x.stat_.uid_),.str (x.stat_.gid_),.str (x.stat_.muid_),.int .i64 (x.err_),.int .i64 (x.lease_),.int .i64 (x.term_),.str (x.session_)]=PV.agg [.int .i64 (y.kind_),.int .i64 (y.tag_),.int .i64 (y.fid_),.int .i64 (y.newFid_),.int .i64 (y.authFid_),.int .i64 (y.oldTag_),.int .i64 (y.msize_),.str (y.version_),.str (y.user_),.str (y.attach_),.slice (List.map PV.str (y.names_)),.slice (List.map Qid.pv (y.qids_)),.int .i64 (y.qid_.type_),.int .i64 (y.qid_.vers_),.int .i64 (y.qid_.path_),.int .i64 (y.iounit_),.int .i64 (y.mode_),.int .i64 (y.perm_),.str (y.name_),.int .i64 (y.offset_),.int .i64 (y.count_),.str (y.data_),.int .i64 (y.stat_.type_),.int .i64 (y.stat_.dev_),.int .i64 (y.stat_.qid_.type_),.int .i64 (y.stat_.qid_.vers_),.int .i64 (y.stat_.qid_.path_),.int .i64 (y.stat_.mode_),.int .i64 (y.stat_.atime_),.int .i64 (y.stat_.mtime_),.int .i64 (y.stat_.length_),.str (y.stat_.name_),.str (y.stat_.uid_),.str (y.stat_.gid_),.str (y.stat_.muid_),.int .i64 (y.err_),.int .i64 (y.lease_),.int .i64 (y.term_),.str (y.session_)])=(x=y):=propext ⟨Msg.inj (x:=x) (y:=y),fun h=>by rw[h]⟩
theorem Call.iff(x y:Call):(PV.agg [.int .i64 (x.req_.kind_),.int .i64 (x.req_.tag_),.int .i64 (x.req_.fid_),.int .i64 (x.req_.newFid_),.int .i64 (x.req_.authFid_),.int .i64 (x.req_.oldTag_),.int .i64 (x.req_.msize_),.str (x.req_.version_),.str (x.req_.user_),.str (x.req_.attach_),.slice (List.map PV.str (x.req_.names_)),.slice (List.map Qid.pv (x.req_.qids_)),.int .i64 (x.req_.qid_.type_),.int .i64 (x.req_.qid_.vers_),.int .i64 (x.req_.qid_.path_),.int .i64 (x.req_.iounit_),.int .i64 (x.req_.mode_),.int .i64 (x.req_.perm_),.str (x.req_.name_),.int .i64 (x.req_.offset_),.int .i64 (x.req_.count_),.str (x.req_.data_),.int .i64 (x.req_.stat_.type_),.int .i64 (x.req_.stat_.dev_),.int .i64 (x.req_.stat_.qid_.type_),.int .i64 (x.req_.stat_.qid_.vers_),.int .i64 (x.req_.stat_.qid_.path_),.int .i64 (x.req_.stat_.mode_),.int .i64 (x.req_.stat_.atime_),.int .i64 (x.req_.stat_.mtime_),.int .i64 (x.req_.stat_.length_),.str (x.req_.stat_.name_),.str (x.req_.stat_.uid_),.str (x.req_.stat_.gid_),.str (x.req_.stat_.muid_),.int .i64 (x.req_.err_),.int .i64 (x.req_.lease_),.int .i64 (x.req_.term_),.str (x.req_.session_),.int .i64 (x.flush_)]=PV.agg [.int .i64 (y.req_.kind_),.int .i64 (y.req_.tag_),.int .i64 (y.req_.fid_),.int .i64 (y.req_.newFid_),.int .i64 (y.req_.authFid_),.int .i64 (y.req_.oldTag_),.int .i64 (y.req_.msize_),.str (y.req_.version_),.str (y.req_.user_),.str (y.req_.attach_),.slice (List.map PV.str (y.req_.names_)),.slice (List.map Qid.pv (y.req_.qids_)),.int .i64 (y.req_.qid_.type_),.int .i64 (y.req_.qid_.vers_),.int .i64 (y.req_.qid_.path_),.int .i64 (y.req_.iounit_),.int .i64 (y.req_.mode_),.int .i64 (y.req_.perm_),.str (y.req_.name_),.int .i64 (y.req_.offset_),.int .i64 (y.req_.count_),.str (y.req_.data_),.int .i64 (y.req_.stat_.type_),.int .i64 (y.req_.stat_.dev_),.int .i64 (y.req_.stat_.qid_.type_),.int .i64 (y.req_.stat_.qid_.vers_),.int .i64 (y.req_.stat_.qid_.path_),.int .i64 (y.req_.stat_.mode_),.int .i64 (y.req_.stat_.atime_),.int .i64 (y.req_.stat_.mtime_),.int .i64 (y.req_.stat_.length_),.str (y.req_.stat_.name_),.str (y.req_.stat_.uid_),.str (y.req_.stat_.gid_),.str (y.req_.stat_.muid_),.int .i64 (y.req_.err_),.int .i64 (y.req_.lease_),.int .i64 (y.req_.term_),.str (y.req_.session_),.int .i64 (y.flush_)])=(x=y):=propext ⟨Call.inj (x:=x) (y:=y),fun h=>by rw[h]⟩
theorem Client.iff(x y:Client):(PV.agg [.bool (x.up_),.int .i64 (x.msize_),.str (x.session_),.slice (List.map (PV.int .i64) (x.fids_)),.slice (List.map Call.pv (x.calls_)),.str (x.partial_)]=PV.agg [.bool (y.up_),.int .i64 (y.msize_),.str (y.session_),.slice (List.map (PV.int .i64) (y.fids_)),.slice (List.map Call.pv (y.calls_)),.str (y.partial_)])=(x=y):=propext ⟨Client.inj (x:=x) (y:=y),fun h=>by rw[h]⟩
theorem S274.iff(x y:S274):(PV.agg [.int .i64 (x.e0_),.int .i64 (x.e1_),.int .i64 (x.e2_),.int .i64 (x.e3_),.int .i64 (x.e4_),.int .i64 (x.e5_),.int .i64 (x.e6_),.int .i64 (x.e7_),.int .i64 (x.e8_),.int .i64 (x.e9_),.int .i64 (x.e10_),.int .i64 (x.e11_),.int .i64 (x.e12_)]=PV.agg [.int .i64 (y.e0_),.int .i64 (y.e1_),.int .i64 (y.e2_),.int .i64 (y.e3_),.int .i64 (y.e4_),.int .i64 (y.e5_),.int .i64 (y.e6_),.int .i64 (y.e7_),.int .i64 (y.e8_),.int .i64 (y.e9_),.int .i64 (y.e10_),.int .i64 (y.e11_),.int .i64 (y.e12_)])=(x=y):=propext ⟨S274.inj (x:=x) (y:=y),fun h=>by rw[h]⟩
theorem S276.iff(x y:S276):(PV.agg [.str (x.e0_),.str (x.e1_),.str (x.e2_),.str (x.e3_),.str (x.e4_),.str (x.e5_)]=PV.agg [.str (y.e0_),.str (y.e1_),.str (y.e2_),.str (y.e3_),.str (y.e4_),.str (y.e5_)])=(x=y):=propext ⟨S276.inj (x:=x) (y:=y),fun h=>by rw[h]⟩
theorem P81_iff(x y:Option (List Plumb)):(oPV Plumb.pv x=oPV Plumb.pv y)=(x=y):=propext ⟨oPV_inj (fun _ _=>Plumb.inj),fun h=>by rw[h]⟩
theorem Port.iff(x y:Port):(PV.agg [.str (x.name_),oPV Plumb.pv (x.queue_),.int .i64 (x.opens_)]=PV.agg [.str (y.name_),oPV Plumb.pv (y.queue_),.int .i64 (y.opens_)])=(x=y):=propext ⟨Port.inj (x:=x) (y:=y),fun h=>by rw[h]⟩
theorem Pattern.iff(x y:Pattern):(PV.agg [.str (x.object_),.str (x.verb_),.str (x.arg_)]=PV.agg [.str (y.object_),.str (y.verb_),.str (y.arg_)])=(x=y):=propext ⟨Pattern.inj (x:=x) (y:=y),fun h=>by rw[h]⟩
theorem Rule.iff(x y:Rule):(PV.agg [.slice (List.map Pattern.pv (x.lines_))]=PV.agg [.slice (List.map Pattern.pv (y.lines_))])=(x=y):=propext ⟨Rule.inj (x:=x) (y:=y),fun h=>by rw[h]⟩
theorem Plumber.iff(x y:Plumber):(PV.agg [.slice (List.map Rule.pv (x.rules_)),.slice (List.map Port.pv (x.ports_))]=PV.agg [.slice (List.map Rule.pv (y.rules_)),.slice (List.map Port.pv (y.ports_))])=(x=y):=propext ⟨Plumber.inj (x:=x) (y:=y),fun h=>by rw[h]⟩
theorem maps0(x y):(List.map PV.str x=List.map PV.str y)=(x=y):=maps_iff (fun _ _=>str_inj) x y
theorem maps1(x y):(List.map PV.bool x=List.map PV.bool y)=(x=y):=maps_iff (fun _ _=>bool_inj) x y
theorem maps2(x y):(List.map (PV.int .i32) x=List.map (PV.int .i32) y)=(x=y):=maps_iff (fun _ _=>int_inj) x y
theorem maps3(x y):(List.map (PV.int .i64) x=List.map (PV.int .i64) y)=(x=y):=maps_iff (fun _ _=>int_inj) x y
theorem maps4(x y):(List.map (PV.int .u32) x=List.map (PV.int .u32) y)=(x=y):=maps_iff (fun _ _=>int_inj) x y
theorem maps5(x y):(List.map (PV.int .u64) x=List.map (PV.int .u64) y)=(x=y):=maps_iff (fun _ _=>int_inj) x y
theorem maps6(x y):(List.map (PV.int .u8) x=List.map (PV.int .u8) y)=(x=y):=maps_iff (fun _ _=>int_inj) x y
theorem maps7(x y):(List.map Attr.pv x=List.map Attr.pv y)=(x=y):=maps_iff (fun _ _=>Attr.inj) x y
theorem maps8(x y):(List.map P22 x=List.map P22 y)=(x=y):=maps_iff (fun _ _=>P22_inj) x y
theorem maps9(x y):(List.map Plumb.pv x=List.map Plumb.pv y)=(x=y):=maps_iff (fun _ _=>Plumb.inj) x y
theorem maps10(x y):(List.map Token.pv x=List.map Token.pv y)=(x=y):=maps_iff (fun _ _=>Token.inj) x y
theorem maps11(x y):(List.map P50 x=List.map P50 y)=(x=y):=maps_iff (fun _ _=>P50_inj) x y
theorem maps12(x y):(List.map Redir.pv x=List.map Redir.pv y)=(x=y):=maps_iff (fun _ _=>Redir.inj) x y
theorem maps13(x y):(List.map P51 x=List.map P51 y)=(x=y):=maps_iff (fun _ _=>P51_inj) x y
theorem maps14(x y):(List.map Cmd.pv x=List.map Cmd.pv y)=(x=y):=maps_iff (fun _ _=>Cmd.inj) x y
theorem maps15(x y):(List.map P46 x=List.map P46 y)=(x=y):=maps_iff (fun _ _=>P46_inj) x y
theorem maps16(x y):(List.map Word.pv x=List.map Word.pv y)=(x=y):=maps_iff (fun _ _=>Word.inj) x y
theorem maps17(x y):(List.map P54 x=List.map P54 y)=(x=y):=maps_iff (fun _ _=>P54_inj) x y
theorem maps18(x y):(List.map Var.pv x=List.map Var.pv y)=(x=y):=maps_iff (fun _ _=>Var.inj) x y
theorem maps19(x y):(List.map P324 x=List.map P324 y)=(x=y):=maps_iff (fun _ _=>P324_inj) x y
theorem maps20(x y):(List.map GEnv.pv x=List.map GEnv.pv y)=(x=y):=maps_iff (fun _ _=>GEnv.inj) x y
theorem maps21(x y):(List.map GValue.pv x=List.map GValue.pv y)=(x=y):=maps_iff (fun _ _=>GValue.inj) x y
theorem maps22(x y):(List.map P59 x=List.map P59 y)=(x=y):=maps_iff (fun _ _=>P59_inj) x y
theorem maps23(x y):(List.map Qid.pv x=List.map Qid.pv y)=(x=y):=maps_iff (fun _ _=>Qid.inj) x y
theorem maps24(x y):(List.map P66 x=List.map P66 y)=(x=y):=maps_iff (fun _ _=>P66_inj) x y
theorem maps25(x y):(List.map Dir.pv x=List.map Dir.pv y)=(x=y):=maps_iff (fun _ _=>Dir.inj) x y
theorem maps26(x y):(List.map Msg.pv x=List.map Msg.pv y)=(x=y):=maps_iff (fun _ _=>Msg.inj) x y
theorem maps27(x y):(List.map Call.pv x=List.map Call.pv y)=(x=y):=maps_iff (fun _ _=>Call.inj) x y
theorem maps28(x y):(List.map P60 x=List.map P60 y)=(x=y):=maps_iff (fun _ _=>P60_inj) x y
theorem maps29(x y):(List.map Client.pv x=List.map Client.pv y)=(x=y):=maps_iff (fun _ _=>Client.inj) x y
theorem maps30(x y):(List.map S274.pv x=List.map S274.pv y)=(x=y):=maps_iff (fun _ _=>S274.inj) x y
theorem maps31(x y):(List.map S276.pv x=List.map S276.pv y)=(x=y):=maps_iff (fun _ _=>S276.inj) x y
theorem maps32(x y):(List.map P81 x=List.map P81 y)=(x=y):=maps_iff (fun _ _=>P81_inj) x y
theorem maps33(x y):(List.map Port.pv x=List.map Port.pv y)=(x=y):=maps_iff (fun _ _=>Port.inj) x y
theorem maps34(x y):(List.map Pattern.pv x=List.map Pattern.pv y)=(x=y):=maps_iff (fun _ _=>Pattern.inj) x y
theorem maps35(x y):(List.map P153 x=List.map P153 y)=(x=y):=maps_iff (fun _ _=>P153_inj) x y
theorem maps36(x y):(List.map Rule.pv x=List.map Rule.pv y)=(x=y):=maps_iff (fun _ _=>Rule.inj) x y
theorem maps37(x y):(List.map P29 x=List.map P29 y)=(x=y):=maps_iff (fun _ _=>P29_inj) x y
theorem maps38(x y):(List.map P30 x=List.map P30 y)=(x=y):=maps_iff (fun _ _=>P30_inj) x y
theorem maps39(x y):(List.map Plumber.pv x=List.map Plumber.pv y)=(x=y):=maps_iff (fun _ _=>Plumber.inj) x y
def INJS:=And.intro @str_iff (
 And.intro @int_iff (
 And.intro @bool_iff (
 And.intro @slice_iff (
 And.intro @Attr.iff (
 And.intro @Plumb.iff (
 And.intro @Token.iff (
 And.intro @Redir.iff (
 And.intro @Cmd.iff (
 And.intro @Word.iff (
 And.intro @Var.iff (
 And.intro @GEnv.iff (
 And.intro @GValue.iff (
 And.intro @Qid.iff (
 And.intro @Dir.iff (
 And.intro @Msg.iff (
 And.intro @Call.iff (
 And.intro @Client.iff (
 And.intro @S274.iff (
 And.intro @S276.iff (
 And.intro @P81_iff (
 And.intro @Port.iff (
 And.intro @Pattern.iff (
 And.intro @Rule.iff (
 And.intro @Plumber.iff (
 And.intro @maps0 (
 And.intro @maps1 (
 And.intro @maps2 (
 And.intro @maps3 (
 And.intro @maps4 (
 And.intro @maps5 (
 And.intro @maps6 (
 And.intro @maps7 (
 And.intro @maps8 (
 And.intro @maps9 (
 And.intro @maps10 (
 And.intro @maps11 (
 And.intro @maps12 (
 And.intro @maps13 (
 And.intro @maps14 (
 And.intro @maps15 (
 And.intro @maps16 (
 And.intro @maps17 (
 And.intro @maps18 (
 And.intro @maps19 (
 And.intro @maps20 (
 And.intro @maps21 (
 And.intro @maps22 (
 And.intro @maps23 (
 And.intro @maps24 (
 And.intro @maps25 (
 And.intro @maps26 (
 And.intro @maps27 (
 And.intro @maps28 (
 And.intro @maps29 (
 And.intro @maps30 (
 And.intro @maps31 (
 And.intro @maps32 (
 And.intro @maps33 (
 And.intro @maps34 (
 And.intro @maps35 (
 And.intro @maps36 (
 And.intro @maps37 (
 And.intro @maps38 (
 @maps39))))))))))))))))))))))))))))))))))))))))))))))))))))))))))))))))
def mkS(f:Nat){α ρ:Type}(F:α→Option ρ)(A:α→List AV×List AObj)(R:α→ρ→Out)(h:∀x y,A x=A y→x=y:=by
 (first|(intro _ _ _;rfl)|((try simp only[Prod.forall]);intros;rename_i h;simp only[Prod.mk.injEq,List.cons.injEq,AV.pv.injEq,AV.agg.injEq,AV.vec.injEq,AV.full.injEq,AObj.bld.injEq,AObj.prn.injEq,AObj.map.injEq,AObj.row.injEq,AObj.var.injEq,INJS,and_true,true_and,and_assoc]at h;first|exact h|(simp only[h,and_self,Prod.mk.injEq,and_true,true_and])|(simp only[Prod.ext_iff,h,and_self])|(obtain⟨_,h⟩:=h;exact h)))):Spec:=⟨f,α,ρ,F,A,R,h⟩
theorem bq1:(true==false)=false:=rfl
theorem bq2:(false==true)=false:=rfl
theorem an{a b:Prop}(x:a)(y:b):a∧b:=⟨x,y⟩
theorem obs{α β:Type}{o:Option α}{f:α→Option β}{b:β}(h:o.bind f=some b):∃a,o=some a∧f a=some b:=Option.bind_eq_some_iff.1 h
theorem fin{E:Env}{rv:List ResultVar}{m:Nat}{e:List Nat}{σ:St}{x:Option (List AV×List AObj)}(h:finish E rv m e σ=x∨finishW E rv m σ=x:=by first|exact .inl rfl|exact .inr rfl|(simp only[List.map_cons,List.map_nil,List.length_set,TYS];first|exact .inl rfl|exact .inr rfl)|(refine Or.inl ?_;simp[finish,resOf,renArgs,toPV,selObjs,sl,AObj.ren,renL,AV.ren,idx,List.range_succ,TYS];done)|(refine Or.inr ?_;simp[finishW,resOf,renArgsW,toPVw,toPV,argsPV,selObjs,sl,AObj.ren,renL,AV.ren,idx,qload,allPV,List.range_succ,TYS];done)):finish E rv m e σ=x∨finishW E rv m σ=x:=h
theorem dk{P:Prop}(h:P:=by simp -implicitDefEqProofs only[RUNS,qindex,Nat.reduceAdd,Nat.reduceLeDiff,Nat.reduceSub,reduceIte,Nat.reduceEqDiff,Nat.reduceLT,reduceCtorEq,Nat.reduceMul,Nat.reduceBEq,Int.reduceEq,Int.reduceToNat,Int.toNat_zero,Nat.sub_zero,if_true,if_false,eq_self,ne_eq,TYS]<;>(try simp only[List.length_take,List.length_drop,List.length_map])):P:=h
theorem dk1{Q P:Prop}(q:Q)(h:Q→P:=by intro q;simp -implicitDefEqProofs only[RUNS,qindex,Nat.reduceAdd,Nat.reduceLeDiff,Nat.reduceSub,reduceIte,Nat.reduceEqDiff,Nat.reduceLT,reduceCtorEq,Nat.reduceMul,Nat.reduceBEq,Int.reduceEq,Int.reduceToNat,Int.toNat_zero,Nat.sub_zero,if_true,if_false,eq_self,ne_eq,TYS,q]<;>(try simp only[List.length_take,List.length_drop,List.length_map])):P:=h q
theorem dv1{Q P:Prop}(q:Q)(h:Q→P:=by intro q;simp -implicitDefEqProofs only[RUNS,qindex,Nat.reduceAdd,Nat.reduceLeDiff,Nat.reduceSub,reduceIte,Nat.reduceEqDiff,Nat.reduceLT,reduceCtorEq,Nat.reduceMul,Nat.reduceBEq,Int.reduceEq,Int.reduceToNat,Int.toNat_zero,Nat.sub_zero,if_true,if_false,eq_self,ne_eq,adoes,gdec,List.getD_cons_zero,List.getD_cons_succ,List.contains_cons,List.contains_nil,Bool.false_eq_true,bq1,bq2,TYS,q]):P:=h q
theorem di{P:Prop}(h:P:=by simp -implicitDefEqProofs only[RUNS,qindex,Nat.reduceAdd,Nat.reduceLeDiff,Nat.reduceSub,reduceIte,Nat.reduceEqDiff,Nat.reduceLT,reduceCtorEq,Nat.reduceMul,Nat.reduceBEq,Int.reduceEq,Int.reduceToNat,Int.toNat_zero,Nat.sub_zero,if_true,if_false,eq_self,ne_eq,pick_nil,pick_cons,leavesK_some,TYS];exact⟨rfl,rfl⟩):P:=h
theorem di1{Q P:Prop}(q:Q)(h:Q→P:=by intro q;simp -implicitDefEqProofs only[RUNS,qindex,Nat.reduceAdd,Nat.reduceLeDiff,Nat.reduceSub,reduceIte,Nat.reduceEqDiff,Nat.reduceLT,reduceCtorEq,Nat.reduceMul,Nat.reduceBEq,Int.reduceEq,Int.reduceToNat,Int.toNat_zero,Nat.sub_zero,if_true,if_false,eq_self,ne_eq,pick_nil,pick_cons,leavesK_some,TYS,q];exact⟨rfl,rfl⟩):P:=h q
theorem kp{P:Prop}(h:P:=by(repeat' first|exact trivial|refine⟨rfl,?_⟩|refine⟨(by simp only[List.length_set];rfl),?_⟩)):P:=h
theorem dh{P:Prop}(h:P:=by(((simp -implicitDefEqProofs only[RUNS,qindex,Nat.reduceAdd,Nat.reduceLeDiff,Nat.reduceSub,reduceIte,Nat.reduceEqDiff,Nat.reduceLT,reduceCtorEq,Nat.reduceMul,Nat.reduceBEq,Int.reduceEq,Int.reduceToNat,Int.toNat_zero,Nat.sub_zero,if_true,if_false,eq_self,ne_eq,TYS]);repeat'(split<;>rename_i hb<;>(try simp only[HBS,ge_iff_le,gt_iff_lt]at hb)<;>(try simp only[hb,Int.toNat_natCast,Int.toNat_zero,Int.reduceToNat,Nat.sub_zero,List.drop_zero,List.length_map]at q)<;>simp -implicitDefEqProofs only[RUNS,qindex,Nat.reduceAdd,Nat.reduceLeDiff,Nat.reduceSub,reduceIte,Nat.reduceEqDiff,Nat.reduceLT,reduceCtorEq,Nat.reduceMul,Nat.reduceBEq,Int.reduceEq,Int.reduceToNat,Int.toNat_zero,Nat.sub_zero,if_true,if_false,eq_self,ne_eq,TYS, *,decide_true,decide_false,Decidable.not_not,not_false_eq_true,not_true_eq_false]));all_goals(first|(simp only[BOOLS];done)|(simp[*];done)|((try simp only[CLOS,beq_iff_eq,bne_iff_ne,ne_eq]at *)<;>omega)|(simp_all;done)|(simp_all<;>omega)))):P:=h
theorem dh1{Q P:Prop}(q:Q)(h:Q→P:=by(intro q;((simp -implicitDefEqProofs only[RUNS,qindex,Nat.reduceAdd,Nat.reduceLeDiff,Nat.reduceSub,reduceIte,Nat.reduceEqDiff,Nat.reduceLT,reduceCtorEq,Nat.reduceMul,Nat.reduceBEq,Int.reduceEq,Int.reduceToNat,Int.toNat_zero,Nat.sub_zero,if_true,if_false,eq_self,ne_eq,TYS,q]);repeat'(split<;>rename_i hb<;>(try simp only[HBS,ge_iff_le,gt_iff_lt]at hb)<;>(try simp only[hb,Int.toNat_natCast,Int.toNat_zero,Int.reduceToNat,Nat.sub_zero,List.drop_zero,List.length_map]at q)<;>simp -implicitDefEqProofs only[RUNS,qindex,Nat.reduceAdd,Nat.reduceLeDiff,Nat.reduceSub,reduceIte,Nat.reduceEqDiff,Nat.reduceLT,reduceCtorEq,Nat.reduceMul,Nat.reduceBEq,Int.reduceEq,Int.reduceToNat,Int.toNat_zero,Nat.sub_zero,if_true,if_false,eq_self,ne_eq,TYS,q, *,decide_true,decide_false,Decidable.not_not,not_false_eq_true,not_true_eq_false]));all_goals(first|(simp only[BOOLS];done)|(simp[*];done)|((try simp only[CLOS,beq_iff_eq,bne_iff_ne,ne_eq]at *)<;>omega)|(simp_all;done)|(simp_all<;>omega)))):P:=h q
theorem hq{P:Prop}(h:P:=by first|rfl|(simp only[List.take_succ_cons,List.take_zero,List.take_nil,List.map_set,List.length_set,List.map_cons,List.map_nil,TYS];done)):P:=h
end Go.Abs.U54
