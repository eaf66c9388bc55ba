import Derived.Test.YtljahlbklgnfhaaGreatDoorA39
import Derived.Test.YtljahlbklgnfhaaGreatDoorA41
import Derived.Test.YtljahlbklgnfhaaGreatDoorA54
import Derived.Test.YtljahlbklgnfhaaGreatDoorA59
import Derived.Test.YtljahlbklgnfhaaGreatDoorA62
import Derived.Lib.ItoaNum
import Derived.Test.YtljahlbklgnfhaaGreatDoorProg
set_option linter.unusedVariables false
set_option linter.unusedSimpArgs false
set_option linter.defProp false
namespace Go.Abs.U48
open Go.RowKit Go.Proofs
abbrev Str:=List UInt8
def tab:List (Nat×TI):=[
 (2,⟨.int .i64,1,8,some [.int .i64 0]⟩),
 (3,⟨.int .i64,1,8,some [.int .i64 0]⟩),
 (4,⟨.bool,1,1,some [.bool false]⟩),
 (5,⟨.int .u8,1,1,some [.int .u8 0]⟩),
 (6,⟨.int .u8,1,1,some [.int .u8 0]⟩),
 (7,⟨.strct [(0,1),(1,1),(2,1),(3,1)],4,24,some [.int .i64 0,.int .i64 0,.bool false,.int .u8 0]⟩),
 (8,⟨.strct [(0,1),(1,1),(2,1),(3,1)],4,24,some [.int .i64 0,.int .i64 0,.bool false,.int .u8 0]⟩),
 (9,⟨.str,1,16,some [.str []]⟩),
 (10,⟨.str,1,16,some [.str []]⟩),
 (11,⟨.str,1,16,some [.str []]⟩),
 (12,⟨.int .u64,1,8,some [.int .u64 0]⟩),
 (13,⟨.strct [(0,1),(1,1)],2,24,some [.str [],.int .u64 0]⟩),
 (14,⟨.strct [(0,1),(1,1)],2,24,some [.str [],.int .u64 0]⟩),
 (15,⟨.ptr 228,1,8,some [.nilp]⟩),
 (16,⟨.ptr 231,1,8,some [.nilp]⟩),
 (17,⟨.ptr 238,1,8,some [.nilp]⟩),
 (18,⟨.strct [(0,1)],1,8,some [.nilp]⟩),
 (19,⟨.strct [(0,1)],1,8,some [.nilp]⟩),
 (20,⟨.iface,1,16,some [.nil]⟩),
 (21,⟨.int .i32,1,4,some [.int .i32 0]⟩),
 (23,⟨.slice 36,1,24,some [.slice []]⟩),
 (24,⟨.int .i64,1,8,some [.int .i64 0]⟩),
 (33,⟨.slice 49,1,24,some [.slice []]⟩),
 (34,⟨.slice 51,1,24,some [.slice []]⟩),
 (35,⟨.strct [(0,1),(1,1),(2,1),(3,1),(4,1),(5,1)],6,104,some [.int .i64 0,.int .i64 0,.str [],.slice [],.slice [],.slice []]⟩),
 (36,⟨.strct [(0,1),(1,1),(2,1),(3,1),(4,1),(5,1)],6,104,some [.int .i64 0,.int .i64 0,.str [],.slice [],.slice [],.slice []]⟩),
 (37,⟨.slice 87,1,24,some [.slice []]⟩),
 (41,⟨.ptr 45,1,8,some [.nilp]⟩),
 (42,⟨.slice 9,1,24,some [.slice []]⟩),
 (44,⟨.strct [(0,1),(1,1),(2,1),(3,1),(4,1),(5,1)],6,88,some [.str [],.slice [],.slice [],.int .i64 0,.int .i64 0,.int .i64 0]⟩),
 (45,⟨.strct [(0,1),(1,1),(2,1),(3,1),(4,1),(5,1)],6,88,some [.str [],.slice [],.slice [],.int .i64 0,.int .i64 0,.int .i64 0]⟩),
 (48,⟨.strct [(0,1),(1,1),(2,1),(3,1),(4,1)],5,88,some [.int .i64 0,.str [],.str [],.slice [],.slice []]⟩),
 (49,⟨.strct [(0,1),(1,1),(2,1),(3,1),(4,1)],5,88,some [.int .i64 0,.str [],.str [],.slice [],.slice []]⟩),
 (50,⟨.strct [(0,1),(1,1),(2,1),(3,5),(8,1)],9,120,some [.int .i64 0,.int .i64 0,.int .i64 0,.int .i64 0,.str [],.str [],.slice [],.slice [],.bool false]⟩),
 (51,⟨.strct [(0,1),(1,1),(2,1),(3,5),(8,1)],9,120,some [.int .i64 0,.int .i64 0,.int .i64 0,.int .i64 0,.str [],.str [],.slice [],.slice [],.bool false]⟩),
 (57,⟨.ptr 60,1,8,some [.nilp]⟩),
 (58,⟨.slice 5,1,24,some [.slice []]⟩),
 (59,⟨.strct [(0,1),(1,1)],2,32,some [.nilp,.slice []]⟩),
 (60,⟨.strct [(0,1),(1,1)],2,32,some [.nilp,.slice []]⟩),
 (61,⟨.strct [(0,2),(2,1)],3,56,some [.nilp,.slice [],.slice []]⟩),
 (62,⟨.strct [(0,2),(2,1)],3,56,some [.nilp,.slice [],.slice []]⟩),
 (65,⟨.ptr 67,1,8,some [.nilp]⟩),
 (66,⟨.strct [(0,1),(1,1)],2,32,some [.str [],.str []]⟩),
 (67,⟨.strct [(0,1),(1,1)],2,32,some [.str [],.str []]⟩),
 (68,⟨.ptr 70,1,8,some [.nilp]⟩),
 (69,⟨.strct [(0,1),(1,1),(2,1),(3,1),(4,1),(5,1),(6,1)],7,96,some [.str [],.int .i64 0,.slice [],.slice [],.int .i64 0,.int .i64 0,.int .i64 0]⟩),
 (70,⟨.strct [(0,1),(1,1),(2,1),(3,1),(4,1),(5,1),(6,1)],7,96,some [.str [],.int .i64 0,.slice [],.slice [],.int .i64 0,.int .i64 0,.int .i64 0]⟩),
 (73,⟨.int .i64,1,8,some [.int .i64 0]⟩),
 (75,⟨.ptr 77,1,8,some [.nilp]⟩),
 (76,⟨.strct [(0,1),(1,1),(2,1),(3,1)],4,72,some [.str [],.slice [],.slice [],.int .i64 0]⟩),
 (77,⟨.strct [(0,1),(1,1),(2,1),(3,1)],4,72,some [.str [],.slice [],.slice [],.int .i64 0]⟩),
 (82,⟨.strct [(0,1),(1,1),(2,1),(3,1),(4,1),(5,1),(6,1)],7,88,some [.int .i64 0,.slice [],.int .i64 0,.bool false,.slice [],.int .i64 0,.int .i64 0]⟩),
 (83,⟨.strct [(0,1),(1,1),(2,1),(3,1),(4,1),(5,1),(6,1)],7,88,some [.int .i64 0,.slice [],.int .i64 0,.bool false,.slice [],.int .i64 0,.int .i64 0]⟩),
 (86,⟨.strct [(0,1),(1,1),(2,1),(3,1)],4,48,some [.int .i64 0,.int .i64 0,.str [],.str []]⟩),
 (87,⟨.strct [(0,1),(1,1),(2,1),(3,1)],4,48,some [.int .i64 0,.int .i64 0,.str [],.str []]⟩),
 (94,⟨.ptr 62,1,8,some [.nilp]⟩),
 (96,⟨.ptr 5,1,8,some [.nilp]⟩),
 (104,⟨.slice 3,1,24,some [.slice []]⟩),
 (113,⟨.strct [(0,1),(1,1),(2,1),(3,1)],4,48,some [.str [],.str [],.int .i64 0,.bool false]⟩),
 (114,⟨.strct [(0,1),(1,1),(2,1),(3,1)],4,48,some [.str [],.str [],.int .i64 0,.bool false]⟩),
 (117,⟨.strct [(0,1),(1,1),(2,1)],3,3,some [.bool false,.bool false,.bool false]⟩),
 (118,⟨.strct [(0,1),(1,1),(2,1)],3,3,some [.bool false,.bool false,.bool false]⟩),
 (132,⟨.iface,1,16,some [.nil]⟩),
 (133,⟨.iface,1,16,some [.nil]⟩),
 (152,⟨.int .u64,1,8,some [.int .u64 0]⟩),
 (166,⟨.int .u32,1,4,some [.int .u32 0]⟩),
 (169,⟨.int .u64,1,8,some [.int .u64 0]⟩),
 (190,⟨.int .i64,1,8,some [.int .i64 0]⟩),
 (193,⟨.ptr 208,1,8,some [.nilp]⟩),
 (207,⟨.strct [(0,1),(1,1),(2,1)],3,48,some [.str [],.str [],.nil]⟩),
 (208,⟨.strct [(0,1),(1,1),(2,1)],3,48,some [.str [],.str [],.nil]⟩),
 (217,⟨.strct [(0,1),(1,1)],2,2,some [.int .u8 0,.int .u8 0]⟩),
 (218,⟨.strct [(0,1),(1,1)],2,2,some [.int .u8 0,.int .u8 0]⟩),
 (221,⟨.ptr 223,1,8,some [.nilp]⟩),
 (222,⟨.strct [(0,1)],1,16,some [.str []]⟩),
 (223,⟨.strct [(0,1)],1,16,some [.str []]⟩),
 (227,⟨.strct [(0,1),(1,1),(2,1),(3,1)],4,40,some [.nilp,.nilp,.nilp,.str []]⟩),
 (228,⟨.strct [(0,1),(1,1),(2,1),(3,1)],4,40,some [.nilp,.nilp,.nilp,.str []]⟩),
 (230,⟨.strct [(0,0)],0,0,some []⟩),
 (231,⟨.strct [(0,0)],0,0,some []⟩),
 (232,⟨.int .u8,1,1,some [.int .u8 0]⟩),
 (233,⟨.int .u8,1,1,some [.int .u8 0]⟩),
 (235,⟨.int .i32,1,4,some [.int .i32 0]⟩),
 (236,⟨.int .i32,1,4,some [.int .i32 0]⟩),
 (237,⟨.strct [(0,1),(1,1),(2,1),(3,1),(4,1),(5,1),(6,1),(7,1),(8,1),(9,1),(10,1)],11,48,none⟩),
 (238,⟨.strct [(0,1),(1,1),(2,1),(3,1),(4,1),(5,1),(6,1),(7,1),(8,1),(9,1),(10,1)],11,48,none⟩)]
def eqtab:List (TypeId×List EK):=[]
theorem eqtab_ok:eqtab.all (fun p=>eqcheck Tryz.prog p.1 p.2)=true:=by kernel_rfl
theorem tab_ok:tab.all (fun p=>tcheck Tryz.prog p.1 p.2)=true:=by kernel_rfl
noncomputable def env:Env where
 P:=Tryz.prog
 T:=tabT tab
 hT:=fun t ti h=>tabT_sound tab_ok t ti h
 gN:=4
 GI:=fun w=>(∃m,w.cell? ⟨0,0,none⟩=some (.int .i64 m))∧(∃ev,w.cell? ⟨1,0,none⟩=some ev∧(ev=.nilIface∨∃te pe,ev=.iface te pe))∧(∃ev,w.cell? ⟨2,0,none⟩=some ev∧(ev=.nilIface∨∃te pe,ev=.iface te pe))∧Lib.TabIs Tryz.prog w "internal/strconv.uint64pow10" .u64 Lib.pow10Tab
 hG:=by
  intro w w' ⟨⟨m,hm⟩,⟨e3,h3,k3⟩,⟨e4,h4,k4⟩,ht⟩ h
  have c:∀b,b<4→w'.cell? ⟨b,0,none⟩=w.cell? ⟨b,0,none⟩:=fun b hb=>World.cell?_of_block (a:=⟨b,0,none⟩) (h b hb)
  exact⟨⟨m,(c 0 (by decide)).trans hm⟩,⟨e3,(c 1 (by decide)).trans h3,k3⟩,⟨e4,(c 2 (by decide)).trans h4,k4⟩,tabIs_below (g:=3) (by kernel_rfl) ht (h 3 (by decide))⟩
 bT:=some 60
 be:=5
 eqT:=eqtabT eqtab
 pT:=some 62
 pe1:=5
 pe2:=51
 psz:=9
 hpT:=by
  intro t ht w
  cases ht
  kernel_rfl
 ownT:=fun t=>([36,37,70,83]:List Nat).contains t
 hEq:=fun t ks h=>eqtabT_sound eqtab_ok h
 hbT:=by
  intro t ht w
  cases ht
  kernel_rfl
theorem env_pT:env.pT=some 62:=rfl
theorem env_pe1:env.pe1=5:=rfl
theorem env_pe2:env.pe2=51:=rfl
theorem env_psz:env.psz=9:=rfl
theorem isBoolT_4:isBoolT env.T 4=true:=rfl
theorem T_3:env.T 3=some ⟨.int .i64,1,8,some [.int .i64 0]⟩:=rfl
theorem T_4:env.T 4=some ⟨.bool,1,1,some [.bool false]⟩:=rfl
theorem T_5:env.T 5=some ⟨.int .u8,1,1,some [.int .u8 0]⟩:=rfl
theorem T_9:env.T 9=some ⟨.str,1,16,some [.str []]⟩:=rfl
theorem T_23:env.T 23=some ⟨.slice 36,1,24,some [.slice []]⟩:=rfl
theorem T_24:env.T 24=some ⟨.int .i64,1,8,some [.int .i64 0]⟩:=rfl
theorem T_33:env.T 33=some ⟨.slice 49,1,24,some [.slice []]⟩:=rfl
theorem T_34:env.T 34=some ⟨.slice 51,1,24,some [.slice []]⟩:=rfl
theorem T_36:env.T 36=some ⟨.strct [(0,1),(1,1),(2,1),(3,1),(4,1),(5,1)],6,104,some [.int .i64 0,.int .i64 0,.str [],.slice [],.slice [],.slice []]⟩:=rfl
theorem T_37:env.T 37=some ⟨.slice 87,1,24,some [.slice []]⟩:=rfl
theorem T_42:env.T 42=some ⟨.slice 9,1,24,some [.slice []]⟩:=rfl
theorem T_49:env.T 49=some ⟨.strct [(0,1),(1,1),(2,1),(3,1),(4,1)],5,88,some [.int .i64 0,.str [],.str [],.slice [],.slice []]⟩:=rfl
theorem T_51:env.T 51=some ⟨.strct [(0,1),(1,1),(2,1),(3,5),(8,1)],9,120,some [.int .i64 0,.int .i64 0,.int .i64 0,.int .i64 0,.str [],.str [],.slice [],.slice [],.bool false]⟩:=rfl
theorem T_57:env.T 57=some ⟨.ptr 60,1,8,some [.nilp]⟩:=rfl
theorem T_58:env.T 58=some ⟨.slice 5,1,24,some [.slice []]⟩:=rfl
theorem T_60:env.T 60=some ⟨.strct [(0,1),(1,1)],2,32,some [.nilp,.slice []]⟩:=rfl
theorem T_62:env.T 62=some ⟨.strct [(0,2),(2,1)],3,56,some [.nilp,.slice [],.slice []]⟩:=rfl
theorem T_68:env.T 68=some ⟨.ptr 70,1,8,some [.nilp]⟩:=rfl
theorem T_70:env.T 70=some ⟨.strct [(0,1),(1,1),(2,1),(3,1),(4,1),(5,1),(6,1)],7,96,some [.str [],.int .i64 0,.slice [],.slice [],.int .i64 0,.int .i64 0,.int .i64 0]⟩:=rfl
theorem T_75:env.T 75=some ⟨.ptr 77,1,8,some [.nilp]⟩:=rfl
theorem T_77:env.T 77=some ⟨.strct [(0,1),(1,1),(2,1),(3,1)],4,72,some [.str [],.slice [],.slice [],.int .i64 0]⟩:=rfl
theorem T_87:env.T 87=some ⟨.strct [(0,1),(1,1),(2,1),(3,1)],4,48,some [.int .i64 0,.int .i64 0,.str [],.str []]⟩:=rfl
theorem T_94:env.T 94=some ⟨.ptr 62,1,8,some [.nilp]⟩:=rfl
theorem T_96:env.T 96=some ⟨.ptr 5,1,8,some [.nilp]⟩:=rfl
theorem T_104:env.T 104=some ⟨.slice 3,1,24,some [.slice []]⟩:=rfl
theorem T_118:env.T 118=some ⟨.strct [(0,1),(1,1),(2,1)],3,3,some [.bool false,.bool false,.bool false]⟩:=rfl
theorem T_133:env.T 133=some ⟨.iface,1,16,some [.nil]⟩:=rfl
theorem ownT_23:env.ownT 23=false:=rfl
theorem ownT_33:env.ownT 33=false:=rfl
theorem ownT_34:env.ownT 34=false:=rfl
theorem ownT_36:env.ownT 36=true:=rfl
theorem ownT_37:env.ownT 37=true:=rfl
theorem ownT_42:env.ownT 42=false:=rfl
theorem ownT_49:env.ownT 49=false:=rfl
theorem ownT_51:env.ownT 51=false:=rfl
theorem ownT_70:env.ownT 70=true:=rfl
theorem ownT_87:env.ownT 87=false:=rfl
theorem ownT_104:env.ownT 104=false:=rfl
theorem ownT_118:env.ownT 118=false:=rfl
theorem eqT_3:env.eqT 3=none:=rfl
theorem eqT_4:env.eqT 4=none:=rfl
theorem eqT_5:env.eqT 5=none:=rfl
theorem eqT_9:env.eqT 9=none:=rfl
theorem eqT_24:env.eqT 24=none:=rfl
theorem eqT_133:env.eqT 133=none:=rfl
theorem mkI_73(p:PV):qmkI env 73 (.pv p)=some (.ifc 73 p):=by
 simp only[qmkI]
 rw[show env.P.underlying 73=_ from Tryz.underlying73]
theorem qf_87_0(cs:List PV):qfield env 87 0 (.pv (.agg cs))=(rdCells ⟨.int .i64,1,8,some [.int .i64 0]⟩ (cs.drop 0)).map .pv:=by
 have h:fieldAt env 87 0=some (0,3):=by kernel_rfl
 unfold qfield
 rw[h]
 simp only[rdField,T_3]
theorem qf_87_1(cs:List PV):qfield env 87 1 (.pv (.agg cs))=(rdCells ⟨.int .i64,1,8,some [.int .i64 0]⟩ (cs.drop 1)).map .pv:=by
 have h:fieldAt env 87 1=some (1,3):=by kernel_rfl
 unfold qfield
 rw[h]
 simp only[rdField,T_3]
theorem qf_87_2(cs:List PV):qfield env 87 2 (.pv (.agg cs))=(rdCells ⟨.str,1,16,some [.str []]⟩ (cs.drop 2)).map .pv:=by
 have h:fieldAt env 87 2=some (2,9):=by kernel_rfl
 unfold qfield
 rw[h]
 simp only[rdField,T_9]
abbrev syn(n:Int):Value:=.iface 73 (.int .i64 n)
theorem mixed:env.P.follows .mixedOrders=true:=by kernel_rfl
theorem env_bT:env.bT=some 60:=rfl
theorem env_P:env.P=Tryz.prog:=rfl
theorem fnq{f:FuncId}{fn:Func}(h:Tryz.prog.funcs[f]?=some fn):env.P.funcs[f]?=some fn:=h
def fn_4:=fnq Tryz.func4
def fn_7:=fnq Tryz.func7
def fn_8:=fnq Tryz.func8
def fn_12:=fnq Tryz.func12
def fn_13:=fnq Tryz.func13
def fn_14:=fnq Tryz.func14
def fn_15:=fnq Tryz.func15
def fn_16:=fnq Tryz.func16
def fn_17:=fnq Tryz.func17
def fn_19:=fnq Tryz.func19
def fn_20:=fnq Tryz.func20
def fn_21:=fnq Tryz.func21
def fn_25:=fnq Tryz.func25
def fn_28:=fnq Tryz.func28
def fn_29:=fnq Tryz.func29
def fn_30:=fnq Tryz.func30
def fn_31:=fnq Tryz.func31
def fn_32:=fnq Tryz.func32
def fn_33:=fnq Tryz.func33
def fn_34:=fnq Tryz.func34
def fn_35:=fnq Tryz.func35
def fn_36:=fnq Tryz.func36
def fn_38:=fnq Tryz.func38
def fn_39:=fnq Tryz.func39
def fn_40:=fnq Tryz.func40
def fn_41:=fnq Tryz.func41
def fn_42:=fnq Tryz.func42
def fn_43:=fnq Tryz.func43
def fn_44:=fnq Tryz.func44
def fn_46:=fnq Tryz.func46
def fn_47:=fnq Tryz.func47
def fn_48:=fnq Tryz.func48
def fn_49:=fnq Tryz.func49
def fn_50:=fnq Tryz.func50
def fn_51:=fnq Tryz.func51
def fn_61:=fnq Tryz.func61
def fn_62:=fnq Tryz.func62
def fn_63:=fnq Tryz.func63
def fn_64:=fnq Tryz.func64
def fn_65:=fnq Tryz.func65
def fn_66:=fnq Tryz.func66
def fn_67:=fnq Tryz.func67
def fn_71:=fnq Tryz.func71
def fn_72:=fnq Tryz.func72
def fn_73:=fnq Tryz.func73
def fn_74:=fnq Tryz.func74
def fn_75:=fnq Tryz.func75
def fn_76:=fnq Tryz.func76
def fn_77:=fnq Tryz.func77
def fn_78:=fnq Tryz.func78
def fn_79:=fnq Tryz.func79
def fn_80:=fnq Tryz.func80
def fn_81:=fnq Tryz.func81
def fn_82:=fnq Tryz.func82
def fn_83:=fnq Tryz.func83
def fn_84:=fnq Tryz.func84
def fn_85:=fnq Tryz.func85
def fn_86:=fnq Tryz.func86
def fn_98:=fnq Tryz.func98
def fn_99:=fnq Tryz.func99
def fn_100:=fnq Tryz.func100
def fn_101:=fnq Tryz.func101
def fn_102:=fnq Tryz.func102
def fn_103:=fnq Tryz.func103
def fn_104:=fnq Tryz.func104
def fn_105:=fnq Tryz.func105
def fn_106:=fnq Tryz.func106
def fn_107:=fnq Tryz.func107
def fn_108:=fnq Tryz.func108
def fn_109:=fnq Tryz.func109
def fn_117:=fnq Tryz.func117
def fn_118:=fnq Tryz.func118
def fn_119:=fnq Tryz.func119
def fn_120:=fnq Tryz.func120
def fn_121:=fnq Tryz.func121
def fn_122:=fnq Tryz.func122
def fn_123:=fnq Tryz.func123
def fn_124:=fnq Tryz.func124
def fn_125:=fnq Tryz.func125
def fn_126:=fnq Tryz.func126
def fn_127:=fnq Tryz.func127
def fn_128:=fnq Tryz.func128
def fn_129:=fnq Tryz.func129
def fn_130:=fnq Tryz.func130
def fn_131:=fnq Tryz.func131
def fn_132:=fnq Tryz.func132
def fn_133:=fnq Tryz.func133
def fn_134:=fnq Tryz.func134
def fn_143:=fnq Tryz.func143
def fn_144:=fnq Tryz.func144
def fn_145:=fnq Tryz.func145
def fn_146:=fnq Tryz.func146
def fn_147:=fnq Tryz.func147
def fn_148:=fnq Tryz.func148
def fn_149:=fnq Tryz.func149
def fn_150:=fnq Tryz.func150
def fn_151:=fnq Tryz.func151
def fn_152:=fnq Tryz.func152
def fn_153:=fnq Tryz.func153
def fn_154:=fnq Tryz.func154
def fn_155:=fnq Tryz.func155
def fn_156:=fnq Tryz.func156
def fn_157:=fnq Tryz.func157
def fn_161:=fnq Tryz.func161
def fn_163:=fnq Tryz.func163
def fn_166:=fnq Tryz.func166
def fn_167:=fnq Tryz.func167
def fn_168:=fnq Tryz.func168
def fn_169:=fnq Tryz.func169
def fn_171:=fnq Tryz.func171
def fn_172:=fnq Tryz.func172
def fn_182:=fnq Tryz.func182
def fn_183:=fnq Tryz.func183
def fn_184:=fnq Tryz.func184
def fn_185:=fnq Tryz.func185
def fn_186:=fnq Tryz.func186
def fn_187:=fnq Tryz.func187
def fn_188:=fnq Tryz.func188
def fn_189:=fnq Tryz.func189
def fn_190:=fnq Tryz.func190
def fn_191:=fnq Tryz.func191
def fn_199:=fnq Tryz.func199
def fn_200:=fnq Tryz.func200
def fn_207:=fnq Tryz.func207
def fn_208:=fnq Tryz.func208
def fn_209:=fnq Tryz.func209
def fn_210:=fnq Tryz.func210
def fn_211:=fnq Tryz.func211
def fn_212:=fnq Tryz.func212
def fn_213:=fnq Tryz.func213
def fn_214:=fnq Tryz.func214
def fn_216:=fnq Tryz.func216
def fn_223:=fnq Tryz.func223
def fn_224:=fnq Tryz.func224
def fn_225:=fnq Tryz.func225
def fn_226:=fnq Tryz.func226
def fn_227:=fnq Tryz.func227
def fn_228:=fnq Tryz.func228
def fn_229:=fnq Tryz.func229
def fn_230:=fnq Tryz.func230
def fn_231:=fnq Tryz.func231
def fn_232:=fnq Tryz.func232
def fn_233:=fnq Tryz.func233
def fn_234:=fnq Tryz.func234
def fn_235:=fnq Tryz.func235
def fn_236:=fnq Tryz.func236
def fn_237:=fnq Tryz.func237
def fn_238:=fnq Tryz.func238
def fn_252:=fnq Tryz.func252
def fn_253:=fnq Tryz.func253
def fn_254:=fnq Tryz.func254
def fn_255:=fnq Tryz.func255
def fn_256:=fnq Tryz.func256
def fn_257:=fnq Tryz.func257
def fn_258:=fnq Tryz.func258
def fn_259:=fnq Tryz.func259
def fn_260:=fnq Tryz.func260
def fn_261:=fnq Tryz.func261
def fn_262:=fnq Tryz.func262
def fn_263:=fnq Tryz.func263
def fn_264:=fnq Tryz.func264
def fn_274:=fnq Tryz.func274
def fn_275:=fnq Tryz.func275
def fn_276:=fnq Tryz.func276
def fn_277:=fnq Tryz.func277
def fn_278:=fnq Tryz.func278
def fn_286:=fnq Tryz.func286
def fn_287:=fnq Tryz.func287
def fn_288:=fnq Tryz.func288
mutual
structure Cmd where
 kind_:Int
 at_:Int
 name_:Str
 words_:List Word
 redirs_:List Redir
 kids_:List Cmd
structure Word where
 kind_:Int
 text_:Str
 quoted_:Str
 words_:List Word
 cmd_:List Cmd
structure Redir where
 kind_:Int
 fd_:Int
 from_:Int
 word_:Word
 raw_:Bool
end
instance:Inhabited Cmd:=⟨⟨0,0,[],[],[],[]⟩⟩
instance:Inhabited Word:=⟨⟨0,[],[],[],[]⟩⟩
instance:Inhabited Redir:=⟨⟨0,0,0,default,false⟩⟩
mutual
def Cmd.cells:Cmd→List PV
 | ⟨a1,a2,a3,a4,a5,a6⟩=>[.int .i64 a1,.int .i64 a2,.str a3,.slice (Word.pvs a4),.slice (Redir.pvs a5),.slice (Cmd.pvs a6)]
def Cmd.pvs:List Cmd→List PV
 | []=>[]
 | x::r=>PV.agg x.cells::Cmd.pvs r
def Word.cells:Word→List PV
 | ⟨a1,a2,a3,a4,a5⟩=>[.int .i64 a1,.str a2,.str a3,.slice (Word.pvs a4),.slice (Cmd.pvs a5)]
def Word.pvs:List Word→List PV
 | []=>[]
 | x::r=>PV.agg x.cells::Word.pvs r
def Redir.cells:Redir→List PV
 | ⟨a1,a2,a3,⟨a4,a5,a6,a7,a8⟩,a9⟩=>[.int .i64 a1,.int .i64 a2,.int .i64 a3,.int .i64 a4,.str a5,.str a6,.slice (Word.pvs a7),.slice (Cmd.pvs a8),.bool a9]
def Redir.pvs:List Redir→List PV
 | []=>[]
 | x::r=>PV.agg x.cells::Redir.pvs r
end
def Cmd.pv(x:Cmd):PV:=.agg x.cells
theorem Cmd.pvs_eq:∀xs:List Cmd,Cmd.pvs xs=xs.map Cmd.pv
 | []=>by rw[Cmd.pvs];rfl
 | x::r=>by rw[Cmd.pvs,Cmd.pvs_eq r];rfl
def Word.pv(x:Word):PV:=.agg x.cells
theorem Word.pvs_eq:∀xs:List Word,Word.pvs xs=xs.map Word.pv
 | []=>by rw[Word.pvs];rfl
 | x::r=>by rw[Word.pvs,Word.pvs_eq r];rfl
def Redir.pv(x:Redir):PV:=.agg x.cells
theorem Redir.pvs_eq:∀xs:List Redir,Redir.pvs xs=xs.map Redir.pv
 | []=>by rw[Redir.pvs];rfl
 | x::r=>by rw[Redir.pvs,Redir.pvs_eq r];rfl
theorem Cmd.pv_eq(x:Cmd):x.pv=.agg [.int .i64 x.kind_,.int .i64 x.at_,.str x.name_,.slice (List.map Word.pv x.words_),.slice (List.map Redir.pv x.redirs_),.slice (List.map Cmd.pv x.kids_)]:=by
 obtain⟨a1,a2,a3,a4,a5,a6⟩:=x
 simp only[Cmd.pv,Cmd.cells,Cmd.pvs_eq,Word.pvs_eq,Redir.pvs_eq]
theorem Word.pv_eq(x:Word):x.pv=.agg [.int .i64 x.kind_,.str x.text_,.str x.quoted_,.slice (List.map Word.pv x.words_),.slice (List.map Cmd.pv x.cmd_)]:=by
 obtain⟨a1,a2,a3,a4,a5⟩:=x
 simp only[Word.pv,Word.cells,Cmd.pvs_eq,Word.pvs_eq,Redir.pvs_eq]
theorem Redir.pv_eq(x:Redir):x.pv=.agg [.int .i64 x.kind_,.int .i64 x.fd_,.int .i64 x.from_,.int .i64 x.word_.kind_,.str x.word_.text_,.str x.word_.quoted_,.slice (List.map Word.pv x.word_.words_),.slice (List.map Cmd.pv x.word_.cmd_),.bool x.raw_]:=by
 obtain⟨a1,a2,a3,⟨a4,a5,a6,a7,a8⟩,a9⟩:=x
 simp only[Redir.pv,Redir.cells,Cmd.pvs_eq,Word.pvs_eq,Redir.pvs_eq]
mutual
theorem Cmd.cinj:∀ (x y:Cmd),x.cells=y.cells→x=y
 | ⟨a1,a2,a3,a4,a5,a6⟩,⟨b1,b2,b3,b4,b5,b6⟩,h=>by
  simp only[Cmd.cells,List.cons.injEq,PV.slice.injEq,and_true]at h
  obtain⟨h1,h2,h3,h4,h5,h6⟩:=h
  cases(int_inj h1)
  cases(int_inj h2)
  cases(str_inj h3)
  cases Word.injs _ _ h4
  cases Redir.injs _ _ h5
  cases Cmd.injs _ _ h6
  rfl
theorem Cmd.injs:∀ (x y:List Cmd),Cmd.pvs x=Cmd.pvs y→x=y
 | [],[],_=>rfl
 | [],y::ys,h=>by simp[Cmd.pvs]at h
 | x::xs,[],h=>by simp[Cmd.pvs]at h
 | x::xs,y::ys,h=>by
  simp only[Cmd.pvs,List.cons.injEq,PV.agg.injEq]at h
  rw[Cmd.cinj x y h.1,Cmd.injs xs ys h.2]
theorem Word.cinj:∀ (x y:Word),x.cells=y.cells→x=y
 | ⟨a1,a2,a3,a4,a5⟩,⟨b1,b2,b3,b4,b5⟩,h=>by
  simp only[Word.cells,List.cons.injEq,PV.slice.injEq,and_true]at h
  obtain⟨h1,h2,h3,h4,h5⟩:=h
  cases(int_inj h1)
  cases(str_inj h2)
  cases(str_inj h3)
  cases Word.injs _ _ h4
  cases Cmd.injs _ _ h5
  rfl
theorem Word.injs:∀ (x y:List Word),Word.pvs x=Word.pvs y→x=y
 | [],[],_=>rfl
 | [],y::ys,h=>by simp[Word.pvs]at h
 | x::xs,[],h=>by simp[Word.pvs]at h
 | x::xs,y::ys,h=>by
  simp only[Word.pvs,List.cons.injEq,PV.agg.injEq]at h
  rw[Word.cinj x y h.1,Word.injs xs ys h.2]
theorem Redir.cinj:∀ (x y:Redir),x.cells=y.cells→x=y
 | ⟨a1,a2,a3,⟨a4,a5,a6,a7,a8⟩,a9⟩,⟨b1,b2,b3,⟨b4,b5,b6,b7,b8⟩,b9⟩,h=>by
  simp only[Redir.cells,List.cons.injEq,PV.slice.injEq,and_true]at h
  obtain⟨h1,h2,h3,h4,h5,h6,h7,h8,h9⟩:=h
  cases(int_inj h1)
  cases(int_inj h2)
  cases(int_inj h3)
  cases(int_inj h4)
  cases(str_inj h5)
  cases(str_inj h6)
  cases Word.injs _ _ h7
  cases Cmd.injs _ _ h8
  cases(bool_inj h9)
  rfl
theorem Redir.injs:∀ (x y:List Redir),Redir.pvs x=Redir.pvs y→x=y
 | [],[],_=>rfl
 | [],y::ys,h=>by simp[Redir.pvs]at h
 | x::xs,[],h=>by simp[Redir.pvs]at h
 | x::xs,y::ys,h=>by
  simp only[Redir.pvs,List.cons.injEq,PV.agg.injEq]at h
  rw[Redir.cinj x y h.1,Redir.injs xs ys h.2]
end
theorem Cmd.inj{x y:Cmd}(h:x.pv=y.pv):x=y:=Cmd.cinj x y (PV.agg.inj h)
theorem Cmd.injA{x y:Cmd}(h:PV.agg [.int .i64 (x.kind_),.int .i64 (x.at_),.str (x.name_),.slice (List.map Word.pv (x.words_)),.slice (List.map Redir.pv (x.redirs_)),.slice (List.map Cmd.pv (x.kids_))]=PV.agg [.int .i64 (y.kind_),.int .i64 (y.at_),.str (y.name_),.slice (List.map Word.pv (y.words_)),.slice (List.map Redir.pv (y.redirs_)),.slice (List.map Cmd.pv (y.kids_))]):x=y:=Cmd.inj ((Cmd.pv_eq x).trans (h.trans (Cmd.pv_eq y).symm))
theorem Cmd.all(xs:List Cmd):((xs.map Cmd.pv).all fun z=>z.cells.length==6)=true:=by
 simp[Cmd.pv_eq,PV.cells]
theorem Word.inj{x y:Word}(h:x.pv=y.pv):x=y:=Word.cinj x y (PV.agg.inj h)
theorem Word.injA{x y:Word}(h:PV.agg [.int .i64 (x.kind_),.str (x.text_),.str (x.quoted_),.slice (List.map Word.pv (x.words_)),.slice (List.map Cmd.pv (x.cmd_))]=PV.agg [.int .i64 (y.kind_),.str (y.text_),.str (y.quoted_),.slice (List.map Word.pv (y.words_)),.slice (List.map Cmd.pv (y.cmd_))]):x=y:=Word.inj ((Word.pv_eq x).trans (h.trans (Word.pv_eq y).symm))
theorem Word.all(xs:List Word):((xs.map Word.pv).all fun z=>z.cells.length==5)=true:=by
 simp[Word.pv_eq,PV.cells]
theorem Redir.inj{x y:Redir}(h:x.pv=y.pv):x=y:=Redir.cinj x y (PV.agg.inj h)
theorem Redir.injA{x y:Redir}(h:PV.agg [.int .i64 (x.kind_),.int .i64 (x.fd_),.int .i64 (x.from_),.int .i64 (x.word_.kind_),.str (x.word_.text_),.str (x.word_.quoted_),.slice (List.map Word.pv (x.word_.words_)),.slice (List.map Cmd.pv (x.word_.cmd_)),.bool (x.raw_)]=PV.agg [.int .i64 (y.kind_),.int .i64 (y.fd_),.int .i64 (y.from_),.int .i64 (y.word_.kind_),.str (y.word_.text_),.str (y.word_.quoted_),.slice (List.map Word.pv (y.word_.words_)),.slice (List.map Cmd.pv (y.word_.cmd_)),.bool (y.raw_)]):x=y:=Redir.inj ((Redir.pv_eq x).trans (h.trans (Redir.pv_eq y).symm))
theorem Redir.all(xs:List Redir):((xs.map Redir.pv).all fun z=>z.cells.length==9)=true:=by
 simp[Redir.pv_eq,PV.cells]
def P23(xs:List Cmd):PV:=.slice (xs.map Cmd.pv)
theorem P23_eq(xs:List Cmd):P23 xs=.slice (xs.map Cmd.pv):=rfl
theorem P23_inj{x y:List Cmd}(h:P23 x=P23 y):x=y:=map_inj_of (fun _ _=>Cmd.inj) (PV.slice.inj h)
def P33(xs:List Word):PV:=.slice (xs.map Word.pv)
theorem P33_eq(xs:List Word):P33 xs=.slice (xs.map Word.pv):=rfl
theorem P33_inj{x y:List Word}(h:P33 x=P33 y):x=y:=map_inj_of (fun _ _=>Word.inj) (PV.slice.inj h)
def P34(xs:List Redir):PV:=.slice (xs.map Redir.pv)
theorem P34_eq(xs:List Redir):P34 xs=.slice (xs.map Redir.pv):=rfl
theorem P34_inj{x y:List Redir}(h:P34 x=P34 y):x=y:=map_inj_of (fun _ _=>Redir.inj) (PV.slice.inj h)
structure Token where
 kind_:Int
 at_:Int
 text_:Str
 quoted_:Str
instance:Inhabited Token:=⟨⟨0,0,[],[]⟩⟩
def Token.pv(x:Token):PV:=.agg [.int .i64 x.kind_,.int .i64 x.at_,.str x.text_,.str x.quoted_]
theorem Token.pv_eq(x:Token):x.pv=.agg [.int .i64 x.kind_,.int .i64 x.at_,.str x.text_,.str x.quoted_]:=rfl
theorem Token.inj{x y:Token}(h:x.pv=y.pv):x=y:=by
 obtain⟨a1,a2,a3,a4⟩:=x
 obtain⟨b1,b2,b3,b4⟩:=y
 simp only[Token.pv,PV.agg.injEq,List.cons.injEq,and_true]at h
 obtain⟨h1,h2,h3,h4⟩:=h
 cases(int_inj h1)
 cases(int_inj h2)
 cases(str_inj h3)
 cases(str_inj h4)
 rfl
theorem Token.all(xs:List Token):((xs.map Token.pv).all fun z=>z.cells.length==4)=true:=by
 simp[Token.pv,PV.cells]
structure Shape where
 name_:Bool
 words_:Bool
 redirs_:Bool
instance:Inhabited Shape:=⟨⟨false,false,false⟩⟩
def Shape.pv(x:Shape):PV:=.agg [.bool x.name_,.bool x.words_,.bool x.redirs_]
theorem Shape.pv_eq(x:Shape):x.pv=.agg [.bool x.name_,.bool x.words_,.bool x.redirs_]:=rfl
theorem Shape.inj{x y:Shape}(h:x.pv=y.pv):x=y:=by
 obtain⟨a1,a2,a3⟩:=x
 obtain⟨b1,b2,b3⟩:=y
 simp only[Shape.pv,PV.agg.injEq,List.cons.injEq,and_true]at h
 obtain⟨h1,h2,h3⟩:=h
 cases(bool_inj h1)
 cases(bool_inj h2)
 cases(bool_inj h3)
 rfl
def pfn:FuncId→Bool:=fun f=>[7,8,12,13,14,15,16,17,19,20,21,25,28,29,30,31,32,33,34,40,42,50,51,61,62,63,64,65,72,74,83,86,98,99,100,101,108,109,117,118,119,124,125,126,128,129,130,133,134,143,144,145,146,147,148,149,150,155,156,157,161,166,169,171,172,182,183,184,185,186,187,188,189,199,207,208,209,210,211,212,213,214,216,233,234,236,237,238,260,261,263,264,275,276,277,278,287,288].contains f
def TYS:=And.intro env_bT (
 And.intro env_pT (
 And.intro env_pe1 (
 And.intro env_pe2 (
 And.intro env_psz (
 And.intro isBoolT_4 (
 And.intro T_3 (
 And.intro T_4 (
 And.intro T_5 (
 And.intro T_9 (
 And.intro T_23 (
 And.intro T_24 (
 And.intro T_33 (
 And.intro T_34 (
 And.intro T_36 (
 And.intro T_37 (
 And.intro T_42 (
 And.intro T_49 (
 And.intro T_51 (
 And.intro T_57 (
 And.intro T_58 (
 And.intro T_60 (
 And.intro T_62 (
 And.intro T_68 (
 And.intro T_70 (
 And.intro T_75 (
 And.intro T_77 (
 And.intro T_87 (
 And.intro T_94 (
 And.intro T_104 (
 And.intro T_118 (
 And.intro T_133 (
 And.intro ownT_23 (
 And.intro ownT_33 (
 And.intro ownT_34 (
 And.intro ownT_36 (
 And.intro ownT_37 (
 And.intro ownT_42 (
 And.intro ownT_49 (
 And.intro ownT_51 (
 And.intro ownT_70 (
 And.intro ownT_87 (
 And.intro ownT_104 (
 And.intro ownT_118 (
 And.intro eqT_3 (
 And.intro eqT_4 (
 And.intro eqT_5 (
 And.intro eqT_9 (
 And.intro eqT_24 (
 And.intro eqT_133 (
 And.intro @mkI_73 (
 And.intro @qf_87_0 (
 And.intro @qf_87_1 (
 And.intro @qf_87_2 (
 And.intro @str_all (
 And.intro @int_all (
 And.intro @bool_all (
 And.intro @P23_eq (
 And.intro @Word.pv_eq (
 And.intro @P33_eq (
 And.intro @Redir.pv_eq (
 And.intro @P34_eq (
 And.intro @Cmd.pv_eq (
 And.intro @Token.pv_eq (
 And.intro @Shape.pv_eq (
 And.intro @Cmd.all (
 And.intro @Word.all (
 And.intro @Redir.all (
 @Token.all))))))))))))))))))))))))))))))))))))))))))))))))))))))))))))))))))))
theorem str_iff(x y:List UInt8):(PV.str x=PV.str y)=(x=y):=PV.str.injEq x y
theorem int_iff(k:IntKind)(x y:Int):(PV.int k x=PV.int k y)=(x=y):=propext ⟨int_inj,fun h=>by rw[h]⟩
theorem bool_iff(x y:Bool):(PV.bool x=PV.bool y)=(x=y):=PV.bool.injEq x y
theorem slice_iff(x y:List PV):(PV.slice x=PV.slice y)=(x=y):=PV.slice.injEq x y
theorem maps_iff{α:Type}{f:α→PV}(hf:∀x y,f x=f y→x=y)(x y:List α):(List.map f x=List.map f y)=(x=y):=propext ⟨map_inj_of hf,fun h=>by rw[h]⟩
theorem Word.iff(x y:Word):(PV.agg [.int .i64 (x.kind_),.str (x.text_),.str (x.quoted_),.slice (List.map Word.pv (x.words_)),.slice (List.map Cmd.pv (x.cmd_))]=PV.agg [.int .i64 (y.kind_),.str (y.text_),.str (y.quoted_),.slice (List.map Word.pv (y.words_)),.slice (List.map Cmd.pv (y.cmd_))])=(x=y):=propext ⟨Word.injA (x:=x) (y:=y),fun h=>by rw[h]⟩
theorem Redir.iff(x y:Redir):(PV.agg [.int .i64 (x.kind_),.int .i64 (x.fd_),.int .i64 (x.from_),.int .i64 (x.word_.kind_),.str (x.word_.text_),.str (x.word_.quoted_),.slice (List.map Word.pv (x.word_.words_)),.slice (List.map Cmd.pv (x.word_.cmd_)),.bool (x.raw_)]=PV.agg [.int .i64 (y.kind_),.int .i64 (y.fd_),.int .i64 (y.from_),.int .i64 (y.word_.kind_),.str (y.word_.text_),.str (y.word_.quoted_),.slice (List.map Word.pv (y.word_.words_)),.slice (List.map Cmd.pv (y.word_.cmd_)),.bool (y.raw_)])=(x=y):=propext ⟨Redir.injA (x:=x) (y:=y),fun h=>by rw[h]⟩
theorem Cmd.iff(x y:Cmd):(PV.agg [.int .i64 (x.kind_),.int .i64 (x.at_),.str (x.name_),.slice (List.map Word.pv (x.words_)),.slice (List.map Redir.pv (x.redirs_)),.slice (List.map Cmd.pv (x.kids_))]=PV.agg [.int .i64 (y.kind_),.int .i64 (y.at_),.str (y.name_),.slice (List.map Word.pv (y.words_)),.slice (List.map Redir.pv (y.redirs_)),.slice (List.map Cmd.pv (y.kids_))])=(x=y):=propext ⟨Cmd.injA (x:=x) (y:=y),fun h=>by rw[h]⟩
theorem Token.iff(x y:Token):(PV.agg [.int .i64 (x.kind_),.int .i64 (x.at_),.str (x.text_),.str (x.quoted_)]=PV.agg [.int .i64 (y.kind_),.int .i64 (y.at_),.str (y.text_),.str (y.quoted_)])=(x=y):=propext ⟨Token.inj (x:=x) (y:=y),fun h=>by rw[h]⟩
theorem Shape.iff(x y:Shape):(PV.agg [.bool (x.name_),.bool (x.words_),.bool (x.redirs_)]=PV.agg [.bool (y.name_),.bool (y.words_),.bool (y.redirs_)])=(x=y):=propext ⟨Shape.inj (x:=x) (y:=y),fun h=>by rw[h]⟩
theorem maps0(x y):(List.map PV.str x=List.map PV.str y)=(x=y):=maps_iff (fun _ _=>str_inj) x y
theorem maps1(x y):(List.map PV.bool x=List.map PV.bool y)=(x=y):=maps_iff (fun _ _=>bool_inj) x y
theorem maps2(x y):(List.map (PV.int .i32) x=List.map (PV.int .i32) y)=(x=y):=maps_iff (fun _ _=>int_inj) x y
theorem maps3(x y):(List.map (PV.int .i64) x=List.map (PV.int .i64) y)=(x=y):=maps_iff (fun _ _=>int_inj) x y
theorem maps4(x y):(List.map (PV.int .u32) x=List.map (PV.int .u32) y)=(x=y):=maps_iff (fun _ _=>int_inj) x y
theorem maps5(x y):(List.map (PV.int .u64) x=List.map (PV.int .u64) y)=(x=y):=maps_iff (fun _ _=>int_inj) x y
theorem maps6(x y):(List.map (PV.int .u8) x=List.map (PV.int .u8) y)=(x=y):=maps_iff (fun _ _=>int_inj) x y
theorem maps7(x y):(List.map P23 x=List.map P23 y)=(x=y):=maps_iff (fun _ _=>P23_inj) x y
theorem maps8(x y):(List.map Word.pv x=List.map Word.pv y)=(x=y):=maps_iff (fun _ _=>Word.inj) x y
theorem maps9(x y):(List.map P33 x=List.map P33 y)=(x=y):=maps_iff (fun _ _=>P33_inj) x y
theorem maps10(x y):(List.map Redir.pv x=List.map Redir.pv y)=(x=y):=maps_iff (fun _ _=>Redir.inj) x y
theorem maps11(x y):(List.map P34 x=List.map P34 y)=(x=y):=maps_iff (fun _ _=>P34_inj) x y
theorem maps12(x y):(List.map Cmd.pv x=List.map Cmd.pv y)=(x=y):=maps_iff (fun _ _=>Cmd.inj) x y
theorem maps13(x y):(List.map Token.pv x=List.map Token.pv y)=(x=y):=maps_iff (fun _ _=>Token.inj) x y
theorem maps14(x y):(List.map Shape.pv x=List.map Shape.pv y)=(x=y):=maps_iff (fun _ _=>Shape.inj) x y
def INJS:=And.intro @str_iff (
 And.intro @int_iff (
 And.intro @bool_iff (
 And.intro @slice_iff (
 And.intro @Word.iff (
 And.intro @Redir.iff (
 And.intro @Cmd.iff (
 And.intro @Token.iff (
 And.intro @Shape.iff (
 And.intro @maps0 (
 And.intro @maps1 (
 And.intro @maps2 (
 And.intro @maps3 (
 And.intro @maps4 (
 And.intro @maps5 (
 And.intro @maps6 (
 And.intro @maps7 (
 And.intro @maps8 (
 And.intro @maps9 (
 And.intro @maps10 (
 And.intro @maps11 (
 And.intro @maps12 (
 And.intro @maps13 (
 @maps14)))))))))))))))))))))))
def mkS(f:Nat){α ρ:Type}(F:α→Option ρ)(A:α→List AV×List AObj)(R:α→ρ→Out)(h:∀x y,A x=A y→x=y:=by
 (first|(intro _ _ _;rfl)|((try simp only[Prod.forall]);intros;rename_i h;simp only[Prod.mk.injEq,List.cons.injEq,AV.pv.injEq,AV.agg.injEq,AV.vec.injEq,AV.full.injEq,AObj.bld.injEq,AObj.prn.injEq,AObj.map.injEq,AObj.row.injEq,AObj.var.injEq,INJS,and_true,true_and,and_assoc]at h;first|exact h|(simp only[h,and_self,Prod.mk.injEq,and_true,true_and])|(obtain⟨_,h⟩:=h;exact h)))):Spec:=⟨f,α,ρ,F,A,R,h⟩
theorem bq1:(true==false)=false:=rfl
theorem bq2:(false==true)=false:=rfl
theorem an{a b:Prop}(x:a)(y:b):a∧b:=⟨x,y⟩
theorem obs{α β:Type}{o:Option α}{f:α→Option β}{b:β}(h:o.bind f=some b):∃a,o=some a∧f a=some b:=Option.bind_eq_some_iff.1 h
theorem fin{E:Env}{rv:List ResultVar}{m:Nat}{e:List Nat}{σ:St}{x:Option (List AV×List AObj)}(h:finish E rv m e σ=x∨finishW E rv m σ=x:=by first|exact .inl rfl|exact .inr rfl|(simp only[List.map_cons,List.map_nil,List.length_set,TYS];first|exact .inl rfl|exact .inr rfl)|(refine Or.inl ?_;simp[finish,resOf,renArgs,toPV,selObjs,sl,AObj.ren,renL,AV.ren,idx,List.range_succ,TYS];done)|(refine Or.inr ?_;simp[finishW,resOf,renArgsW,toPVw,toPV,argsPV,selObjs,sl,AObj.ren,renL,AV.ren,idx,qload,allPV,List.range_succ,TYS];done)):finish E rv m e σ=x∨finishW E rv m σ=x:=h
theorem dk{P:Prop}(h:P:=by simp -implicitDefEqProofs only[RUNS,qindex,Nat.reduceAdd,Nat.reduceLeDiff,Nat.reduceSub,reduceIte,Nat.reduceEqDiff,Nat.reduceLT,reduceCtorEq,Nat.reduceMul,Nat.reduceBEq,Int.reduceEq,Int.reduceToNat,Int.toNat_zero,Nat.sub_zero,if_true,if_false,eq_self,ne_eq,TYS]<;>(try simp only[List.length_take,List.length_drop,List.length_map])):P:=h
theorem dk1{Q P:Prop}(q:Q)(h:Q→P:=by intro q;simp -implicitDefEqProofs only[RUNS,qindex,Nat.reduceAdd,Nat.reduceLeDiff,Nat.reduceSub,reduceIte,Nat.reduceEqDiff,Nat.reduceLT,reduceCtorEq,Nat.reduceMul,Nat.reduceBEq,Int.reduceEq,Int.reduceToNat,Int.toNat_zero,Nat.sub_zero,if_true,if_false,eq_self,ne_eq,TYS,q]<;>(try simp only[List.length_take,List.length_drop,List.length_map])):P:=h q
theorem dv{P:Prop}(h:P:=by simp -implicitDefEqProofs only[RUNS,qindex,Nat.reduceAdd,Nat.reduceLeDiff,Nat.reduceSub,reduceIte,Nat.reduceEqDiff,Nat.reduceLT,reduceCtorEq,Nat.reduceMul,Nat.reduceBEq,Int.reduceEq,Int.reduceToNat,Int.toNat_zero,Nat.sub_zero,if_true,if_false,eq_self,ne_eq,adoes,gdec,List.getD_cons_zero,List.getD_cons_succ,List.contains_cons,List.contains_nil,Bool.false_eq_true,bq1,bq2,TYS]):P:=h
theorem dv1{Q P:Prop}(q:Q)(h:Q→P:=by intro q;simp -implicitDefEqProofs only[RUNS,qindex,Nat.reduceAdd,Nat.reduceLeDiff,Nat.reduceSub,reduceIte,Nat.reduceEqDiff,Nat.reduceLT,reduceCtorEq,Nat.reduceMul,Nat.reduceBEq,Int.reduceEq,Int.reduceToNat,Int.toNat_zero,Nat.sub_zero,if_true,if_false,eq_self,ne_eq,adoes,gdec,List.getD_cons_zero,List.getD_cons_succ,List.contains_cons,List.contains_nil,Bool.false_eq_true,bq1,bq2,TYS,q]):P:=h q
theorem di{P:Prop}(h:P:=by simp -implicitDefEqProofs only[RUNS,qindex,Nat.reduceAdd,Nat.reduceLeDiff,Nat.reduceSub,reduceIte,Nat.reduceEqDiff,Nat.reduceLT,reduceCtorEq,Nat.reduceMul,Nat.reduceBEq,Int.reduceEq,Int.reduceToNat,Int.toNat_zero,Nat.sub_zero,if_true,if_false,eq_self,ne_eq,pick_nil,pick_cons,leavesK_some,TYS];exact⟨rfl,rfl⟩):P:=h
theorem di1{Q P:Prop}(q:Q)(h:Q→P:=by intro q;simp -implicitDefEqProofs only[RUNS,qindex,Nat.reduceAdd,Nat.reduceLeDiff,Nat.reduceSub,reduceIte,Nat.reduceEqDiff,Nat.reduceLT,reduceCtorEq,Nat.reduceMul,Nat.reduceBEq,Int.reduceEq,Int.reduceToNat,Int.toNat_zero,Nat.sub_zero,if_true,if_false,eq_self,ne_eq,pick_nil,pick_cons,leavesK_some,TYS,q];exact⟨rfl,rfl⟩):P:=h q
theorem kp{P:Prop}(h:P:=by(repeat' first|exact trivial|refine⟨rfl,?_⟩|refine⟨(by simp only[List.length_set];rfl),?_⟩)):P:=h
theorem dh{P:Prop}(h:P:=by(((simp -implicitDefEqProofs only[RUNS,qindex,Nat.reduceAdd,Nat.reduceLeDiff,Nat.reduceSub,reduceIte,Nat.reduceEqDiff,Nat.reduceLT,reduceCtorEq,Nat.reduceMul,Nat.reduceBEq,Int.reduceEq,Int.reduceToNat,Int.toNat_zero,Nat.sub_zero,if_true,if_false,eq_self,ne_eq,TYS]);repeat'(split<;>rename_i hb<;>(try simp only[HBS,ge_iff_le,gt_iff_lt]at hb)<;>(try simp only[hb,Int.toNat_natCast,Int.toNat_zero,Int.reduceToNat,Nat.sub_zero,List.drop_zero,List.length_map]at q)<;>simp -implicitDefEqProofs only[RUNS,qindex,Nat.reduceAdd,Nat.reduceLeDiff,Nat.reduceSub,reduceIte,Nat.reduceEqDiff,Nat.reduceLT,reduceCtorEq,Nat.reduceMul,Nat.reduceBEq,Int.reduceEq,Int.reduceToNat,Int.toNat_zero,Nat.sub_zero,if_true,if_false,eq_self,ne_eq,TYS, *,decide_true,decide_false,Decidable.not_not,not_false_eq_true,not_true_eq_false]));all_goals(first|(simp only[BOOLS];done)|(simp[*];done)|((try simp only[CLOS,beq_iff_eq,bne_iff_ne,ne_eq]at *)<;>omega)|(simp_all;done)|(simp_all<;>omega)))):P:=h
theorem dh1{Q P:Prop}(q:Q)(h:Q→P:=by(intro q;((simp -implicitDefEqProofs only[RUNS,qindex,Nat.reduceAdd,Nat.reduceLeDiff,Nat.reduceSub,reduceIte,Nat.reduceEqDiff,Nat.reduceLT,reduceCtorEq,Nat.reduceMul,Nat.reduceBEq,Int.reduceEq,Int.reduceToNat,Int.toNat_zero,Nat.sub_zero,if_true,if_false,eq_self,ne_eq,TYS,q]);repeat'(split<;>rename_i hb<;>(try simp only[HBS,ge_iff_le,gt_iff_lt]at hb)<;>(try simp only[hb,Int.toNat_natCast,Int.toNat_zero,Int.reduceToNat,Nat.sub_zero,List.drop_zero,List.length_map]at q)<;>simp -implicitDefEqProofs only[RUNS,qindex,Nat.reduceAdd,Nat.reduceLeDiff,Nat.reduceSub,reduceIte,Nat.reduceEqDiff,Nat.reduceLT,reduceCtorEq,Nat.reduceMul,Nat.reduceBEq,Int.reduceEq,Int.reduceToNat,Int.toNat_zero,Nat.sub_zero,if_true,if_false,eq_self,ne_eq,TYS,q, *,decide_true,decide_false,Decidable.not_not,not_false_eq_true,not_true_eq_false]));all_goals(first|(simp only[BOOLS];done)|(simp[*];done)|((try simp only[CLOS,beq_iff_eq,bne_iff_ne,ne_eq]at *)<;>omega)|(simp_all;done)|(simp_all<;>omega)))):P:=h q
theorem dp{P:Prop}(h:P:=by simp -implicitDefEqProofs only[RUNS,qindex,Nat.reduceAdd,Nat.reduceLeDiff,Nat.reduceSub,reduceIte,Nat.reduceEqDiff,Nat.reduceLT,reduceCtorEq,Nat.reduceMul,Nat.reduceBEq,Int.reduceEq,Int.reduceToNat,Int.toNat_zero,Nat.sub_zero,if_true,if_false,eq_self,ne_eq,leavesS_some,TYS];first|exact Stops.panic rfl rfl rfl|exact Stops.call rfl rfl (by simp -implicitDefEqProofs only[RUNS,qindex,Nat.reduceAdd,Nat.reduceLeDiff,Nat.reduceSub,reduceIte,Nat.reduceEqDiff,Nat.reduceLT,reduceCtorEq,Nat.reduceMul,Nat.reduceBEq,Int.reduceEq,Int.reduceToNat,Int.toNat_zero,Nat.sub_zero,if_true,if_false,eq_self,ne_eq,TYS];first|done|rfl|exact⟨rfl,rfl⟩)):P:=h
theorem dp1{Q P:Prop}(q:Q)(h:Q→P:=by intro q;simp -implicitDefEqProofs only[RUNS,qindex,Nat.reduceAdd,Nat.reduceLeDiff,Nat.reduceSub,reduceIte,Nat.reduceEqDiff,Nat.reduceLT,reduceCtorEq,Nat.reduceMul,Nat.reduceBEq,Int.reduceEq,Int.reduceToNat,Int.toNat_zero,Nat.sub_zero,if_true,if_false,eq_self,ne_eq,leavesS_some,TYS,q];first|exact Stops.panic rfl rfl rfl|exact Stops.call rfl rfl (by simp -implicitDefEqProofs only[RUNS,qindex,Nat.reduceAdd,Nat.reduceLeDiff,Nat.reduceSub,reduceIte,Nat.reduceEqDiff,Nat.reduceLT,reduceCtorEq,Nat.reduceMul,Nat.reduceBEq,Int.reduceEq,Int.reduceToNat,Int.toNat_zero,Nat.sub_zero,if_true,if_false,eq_self,ne_eq,TYS,q];first|done|rfl|exact⟨rfl,rfl⟩)):P:=h q
theorem hq{P:Prop}(h:P:=by first|rfl|(simp only[List.take_succ_cons,List.take_zero,List.take_nil,List.map_set,List.length_set,List.map_cons,List.map_nil,TYS];done)):P:=h
theorem ap0{O:Orc}{pf:FuncId→Bool}(f:FuncId)(h:O.pf=pf){q:Prop}(e:q)(hb:pf f=false:=by rfl):O.pf f=false∧q:=⟨pft h f hb,e⟩
theorem ap1{O:Orc}{pf:FuncId→Bool}(f:FuncId)(h:O.pf=pf){q:Prop}(e:q)(hb:pf f=true:=by rfl):O.pf f=true∧q:=⟨pft h f hb,e⟩
theorem srg{E:Env}{O:Orc}{k:Nat}{Q:Exit→St→Prop}(hS:Sound E O)(ks:List Nat){id n:Nat}{t:Nat→AV}{h:List AObj}{ops:Array Oper}{y:Code}{L:List (Nat×AV)}{h':List AObj}(hr:LeavesK ks L h' (arun E O ops ops.toList ⟨t,n,h⟩))(hQ:AW E k y Q ⟨sl L,n,h'⟩):AW E k (.seq (.region id ops false) y) Q ⟨t,n,h⟩:=AW.seq (AW.rg hS ks hr hQ)
theorem ifs{E:Env}{k:Nat}{Q:Exit→St→Prop}{α:Type}{r:α}{b b':Bool}{u v:Option α}(h:(bif b then u else v)=some r){c:Operand}{x y:Code}{σ:St}(ht:b=true→u=some r→AW E k x Q σ)(hf:b=false→v=some r→AW E k y Q σ)(hc:ev σ.t c=.pv (.bool b'):=by rfl)(hb:b'=b:=by rfl):AW E k (.cond c x y) Q σ:=AW.iff_ h hc hb ht hf
theorem ifk{E:Env}{k:Nat}{Q:Exit→St→Prop}{α:Type}{r:α}{b b':Bool}{u v:Option α}(h:(bif b then u else v)=some r){c:Operand}{x:Code}{σ:St}(ht:b=true→u=some r→AW E k x Q σ)(hf:b=false→v=some r→Q .normal σ)(hc:ev σ.t c=.pv (.bool b'):=by rfl)(hb:b'=b:=by rfl):AW E k (.cond c x .skip) Q σ:=AW.iff_ h hc hb ht fun p q=>AW.skip (hf p q)
theorem orp{E:Env}{L:List Spec}(c:AllG E L):∃ (O:Orc) (X:XO),Sound E O∧SoundX E X∧O.pf=pfn∧∀ (i f:Nat) {S:Spec},firstAt L i f=some S→Kn O X f S:=orcs (pf:=pfn) c
theorem gh{E:Env}{S:Spec}{fn:Func}{c:Code}(hf:E.P.funcs[S.f]?=some fn)(N:Nat)(h:∀ (x:S.α) (r:S.ρ),S.F x=some r→∀m,(S.A x).2.length=m→(decide ((S.A x).1.length≤N)=true∧AW E m c (retB E fn m [] (S.A x).2 (S.R x r)) ⟨sl (enum 0 (S.A x).1),N,(S.A x).2⟩))(hnm:(fn.name=="runtime.NumGoroutine")=false:=by rfl)(hb:fn.body=some c:=by rfl)(hN:fn.ntmps=N:=by rfl)(hd0:E.dfs=[]:=by rfl):GoodH E S:=GH hf hnm hb N hN [] hd0 h
theorem ghs{E:Env}{S:Spec}{x:S.α}{r:S.ρ}{m N:Nat}{fn:Func}{c:Code}{extra:List Nat}{args:List AV}{H:List AObj}{out:Out}(em:(S.A x).2.length=m){M:Nat}{L:List (Nat×AV)}(h:AW E M c (retB E fn M extra H out) ⟨sl L,N,H⟩)(e1:S.A x=(args,H):=by rfl)(e2:S.R x r=out:=by rfl)(eM:H.length=M:=by rfl)(hn:decide (args.length≤N)=true:=by rfl)(hL:enum 0 args=L:=by rfl):decide ((S.A x).1.length≤N)=true∧AW E m c (retB E fn m extra (S.A x).2 (S.R x r)) ⟨sl (enum 0 (S.A x).1),N,(S.A x).2⟩:=GHs e1 e2 em eM hn hL h
theorem wq{Q P:Prop}(q:Q)(h:Q→P:=by intro hb;simp only[hb,cond_true,cond_false,BOOLS,Bool.not_true,Bool.not_false]<;>rfl):P:=h q
def NRM:=And.intro @Int.toNat_natCast (And.intro @Int.toNat_zero (And.intro @Nat.sub_zero (And.intro (@List.drop_zero:∀ {α:Type} {l:List α},List.drop 0 l=l) (@List.length_map:∀ {α β:Type} {l:List α} (f:α→β),(l.map f).length=l.length))))
def LNS:=And.intro (@List.length_cons:∀ {α:Type} {a:α} {l:List α},(a::l).length=l.length+1) (And.intro (@List.length_nil:∀ {α:Type},([]:List α).length=0) @Nat.zero_add)
theorem PVM:(∀ {α β:Type} (f:α→β) (a:α) (l:List α),List.map f (a::l)=f a::List.map f l)∧(∀ {α β:Type} (f:α→β),List.map f []=[]):=⟨fun _ _ _=>rfl,fun _=>rfl⟩
def PVE:=And.intro @PVM.1 (And.intro @PVM.2 (And.intro @P23_eq (And.intro @Word.pv_eq (And.intro @P33_eq (And.intro @Redir.pv_eq (And.intro @P34_eq (And.intro @Cmd.pv_eq (And.intro @Token.pv_eq @Shape.pv_eq))))))))
end Go.Abs.U48
