import Derived.Test.YtljahlbklgnfhaaGreatDoorA35
import Derived.Test.YtljahlbklgnfhaaGreatDoorA41
import Derived.Test.YtljahlbklgnfhaaGreatDoorA54
import Derived.Test.YtljahlbklgnfhaaGreatDoorA59
import Derived.Test.YtljahlbklgnfhaaGreatDoorA63
import Derived.Lib.ItoaNum
import Derived.Test.YtljahlbklgnfhaaGreatDoorProg
set_option linter.unusedVariables false
set_option linter.unusedSimpArgs false
set_option linter.defProp false
namespace Go.Abs.U48
open Go.RowKit Go.Proofs
abbrev Str:=List UInt8
def tab:List (Nat×TI):=[
 (2,⟨.int .i64,1,8,some [.int .i64 0]⟩),
 (3,⟨.int .i64,1,8,some [.int .i64 0]⟩),
 (4,⟨.bool,1,1,some [.bool false]⟩),
 (5,⟨.int .u8,1,1,some [.int .u8 0]⟩),
 (6,⟨.int .u8,1,1,some [.int .u8 0]⟩),
 (7,⟨.strct [(0,1),(1,1),(2,1),(3,1)],4,24,some [.int .i64 0,.int .i64 0,.bool false,.int .u8 0]⟩),
 (8,⟨.strct [(0,1),(1,1),(2,1),(3,1)],4,24,some [.int .i64 0,.int .i64 0,.bool false,.int .u8 0]⟩),
 (9,⟨.str,1,16,some [.str []]⟩),
 (10,⟨.str,1,16,some [.str []]⟩),
 (11,⟨.str,1,16,some [.str []]⟩),
 (12,⟨.int .u64,1,8,some [.int .u64 0]⟩),
 (13,⟨.strct [(0,1),(1,1)],2,24,some [.str [],.int .u64 0]⟩),
 (14,⟨.strct [(0,1),(1,1)],2,24,some [.str [],.int .u64 0]⟩),
 (15,⟨.ptr 228,1,8,some [.nilp]⟩),
 (16,⟨.ptr 231,1,8,some [.nilp]⟩),
 (17,⟨.ptr 238,1,8,some [.nilp]⟩),
 (18,⟨.strct [(0,1)],1,8,some [.nilp]⟩),
 (19,⟨.strct [(0,1)],1,8,some [.nilp]⟩),
 (20,⟨.iface,1,16,some [.nil]⟩),
 (21,⟨.int .i32,1,4,some [.int .i32 0]⟩),
 (23,⟨.slice 36,1,24,some [.slice []]⟩),
 (24,⟨.int .i64,1,8,some [.int .i64 0]⟩),
 (33,⟨.slice 49,1,24,some [.slice []]⟩),
 (34,⟨.slice 51,1,24,some [.slice []]⟩),
 (35,⟨.strct [(0,1),(1,1),(2,1),(3,1),(4,1),(5,1)],6,104,some [.int .i64 0,.int .i64 0,.str [],.slice [],.slice [],.slice []]⟩),
 (36,⟨.strct [(0,1),(1,1),(2,1),(3,1),(4,1),(5,1)],6,104,some [.int .i64 0,.int .i64 0,.str [],.slice [],.slice [],.slice []]⟩),
 (37,⟨.slice 87,1,24,some [.slice []]⟩),
 (41,⟨.ptr 45,1,8,some [.nilp]⟩),
 (42,⟨.slice 9,1,24,some [.slice []]⟩),
 (44,⟨.strct [(0,1),(1,1),(2,1),(3,1),(4,1),(5,1)],6,88,some [.str [],.slice [],.slice [],.int .i64 0,.int .i64 0,.int .i64 0]⟩),
 (45,⟨.strct [(0,1),(1,1),(2,1),(3,1),(4,1),(5,1)],6,88,some [.str [],.slice [],.slice [],.int .i64 0,.int .i64 0,.int .i64 0]⟩),
 (48,⟨.strct [(0,1),(1,1),(2,1),(3,1),(4,1)],5,88,some [.int .i64 0,.str [],.str [],.slice [],.slice []]⟩),
 (49,⟨.strct [(0,1),(1,1),(2,1),(3,1),(4,1)],5,88,some [.int .i64 0,.str [],.str [],.slice [],.slice []]⟩),
 (50,⟨.strct [(0,1),(1,1),(2,1),(3,5),(8,1)],9,120,some [.int .i64 0,.int .i64 0,.int .i64 0,.int .i64 0,.str [],.str [],.slice [],.slice [],.bool false]⟩),
 (51,⟨.strct [(0,1),(1,1),(2,1),(3,5),(8,1)],9,120,some [.int .i64 0,.int .i64 0,.int .i64 0,.int .i64 0,.str [],.str [],.slice [],.slice [],.bool false]⟩),
 (57,⟨.ptr 60,1,8,some [.nilp]⟩),
 (58,⟨.slice 5,1,24,some [.slice []]⟩),
 (59,⟨.strct [(0,1),(1,1)],2,32,some [.nilp,.slice []]⟩),
 (60,⟨.strct [(0,1),(1,1)],2,32,some [.nilp,.slice []]⟩),
 (61,⟨.strct [(0,2),(2,1)],3,56,some [.nilp,.slice [],.slice []]⟩),
 (62,⟨.strct [(0,2),(2,1)],3,56,some [.nilp,.slice [],.slice []]⟩),
 (65,⟨.ptr 67,1,8,some [.nilp]⟩),
 (66,⟨.strct [(0,1),(1,1)],2,32,some [.str [],.str []]⟩),
 (67,⟨.strct [(0,1),(1,1)],2,32,some [.str [],.str []]⟩),
 (68,⟨.ptr 70,1,8,some [.nilp]⟩),
 (69,⟨.strct [(0,1),(1,1),(2,1),(3,1),(4,1),(5,1),(6,1)],7,96,some [.str [],.int .i64 0,.slice [],.slice [],.int .i64 0,.int .i64 0,.int .i64 0]⟩),
 (70,⟨.strct [(0,1),(1,1),(2,1),(3,1),(4,1),(5,1),(6,1)],7,96,some [.str [],.int .i64 0,.slice [],.slice [],.int .i64 0,.int .i64 0,.int .i64 0]⟩),
 (73,⟨.int .i64,1,8,some [.int .i64 0]⟩),
 (75,⟨.ptr 77,1,8,some [.nilp]⟩),
 (76,⟨.strct [(0,1),(1,1),(2,1),(3,1)],4,72,some [.str [],.slice [],.slice [],.int .i64 0]⟩),
 (77,⟨.strct [(0,1),(1,1),(2,1),(3,1)],4,72,some [.str [],.slice [],.slice [],.int .i64 0]⟩),
 (82,⟨.strct [(0,1),(1,1),(2,1),(3,1),(4,1),(5,1),(6,1)],7,88,some [.int .i64 0,.slice [],.int .i64 0,.bool false,.slice [],.int .i64 0,.int .i64 0]⟩),
 (83,⟨.strct [(0,1),(1,1),(2,1),(3,1),(4,1),(5,1),(6,1)],7,88,some [.int .i64 0,.slice [],.int .i64 0,.bool false,.slice [],.int .i64 0,.int .i64 0]⟩),
 (86,⟨.strct [(0,1),(1,1),(2,1),(3,1)],4,48,some [.int .i64 0,.int .i64 0,.str [],.str []]⟩),
 (87,⟨.strct [(0,1),(1,1),(2,1),(3,1)],4,48,some [.int .i64 0,.int .i64 0,.str [],.str []]⟩),
 (94,⟨.ptr 62,1,8,some [.nilp]⟩),
 (96,⟨.ptr 5,1,8,some [.nilp]⟩),
 (104,⟨.slice 3,1,24,some [.slice []]⟩),
 (113,⟨.strct [(0,1),(1,1),(2,1),(3,1)],4,48,some [.str [],.str [],.int .i64 0,.bool false]⟩),
 (114,⟨.strct [(0,1),(1,1),(2,1),(3,1)],4,48,some [.str [],.str [],.int .i64 0,.bool false]⟩),
 (117,⟨.strct [(0,1),(1,1),(2,1)],3,3,some [.bool false,.bool false,.bool false]⟩),
 (118,⟨.strct [(0,1),(1,1),(2,1)],3,3,some [.bool false,.bool false,.bool false]⟩),
 (132,⟨.iface,1,16,some [.nil]⟩),
 (133,⟨.iface,1,16,some [.nil]⟩),
 (152,⟨.int .u64,1,8,some [.int .u64 0]⟩),
 (166,⟨.int .u32,1,4,some [.int .u32 0]⟩),
 (169,⟨.int .u64,1,8,some [.int .u64 0]⟩),
 (190,⟨.int .i64,1,8,some [.int .i64 0]⟩),
 (193,⟨.ptr 208,1,8,some [.nilp]⟩),
 (207,⟨.strct [(0,1),(1,1),(2,1)],3,48,some [.str [],.str [],.nil]⟩),
 (208,⟨.strct [(0,1),(1,1),(2,1)],3,48,some [.str [],.str [],.nil]⟩),
 (217,⟨.strct [(0,1),(1,1)],2,2,some [.int .u8 0,.int .u8 0]⟩),
 (218,⟨.strct [(0,1),(1,1)],2,2,some [.int .u8 0,.int .u8 0]⟩),
 (221,⟨.ptr 223,1,8,some [.nilp]⟩),
 (222,⟨.strct [(0,1)],1,16,some [.str []]⟩),
 (223,⟨.strct [(0,1)],1,16,some [.str []]⟩),
 (227,⟨.strct [(0,1),(1,1),(2,1),(3,1)],4,40,some [.nilp,.nilp,.nilp,.str []]⟩),
 (228,⟨.strct [(0,1),(1,1),(2,1),(3,1)],4,40,some [.nilp,.nilp,.nilp,.str []]⟩),
 (230,⟨.strct [(0,0)],0,0,some []⟩),
 (231,⟨.strct [(0,0)],0,0,some []⟩),
 (232,⟨.int .u8,1,1,some [.int .u8 0]⟩),
 (233,⟨.int .u8,1,1,some [.int .u8 0]⟩),
 (235,⟨.int .i32,1,4,some [.int .i32 0]⟩),
 (236,⟨.int .i32,1,4,some [.int .i32 0]⟩),
 (237,⟨.strct [(0,1),(1,1),(2,1),(3,1),(4,1),(5,1),(6,1),(7,1),(8,1),(9,1),(10,1)],11,48,none⟩),
 (238,⟨.strct [(0,1),(1,1),(2,1),(3,1),(4,1),(5,1),(6,1),(7,1),(8,1),(9,1),(10,1)],11,48,none⟩)]
def V3c:List (TypeId×List EK):=[]
theorem X4z:V3c.all (fun p=>Z8f Tryz.prog p.1 p.2)=true:=by kernel_rfl
theorem K2m:tab.all (fun p=>J4q Tryz.prog p.1 p.2)=true:=by kernel_rfl
noncomputable def env:Env where
 P:=Tryz.prog
 T:=tabT tab
 hT:=fun t ti h=>J7c K2m t ti h
 gN:=4
 GI:=fun w=>(∃m,w.cell? ⟨0,0,none⟩=some (.int .i64 m))∧(∃ev,w.cell? ⟨1,0,none⟩=some ev∧(ev=.nilIface∨∃te pe,ev=.iface te pe))∧(∃ev,w.cell? ⟨2,0,none⟩=some ev∧(ev=.nilIface∨∃te pe,ev=.iface te pe))∧Lib.TabIs Tryz.prog w "internal/strconv.uint64pow10" .u64 Lib.pow10Tab
 hG:=by
  intro w w' ⟨⟨m,hm⟩,⟨e3,h3,k3⟩,⟨e4,h4,k4⟩,ht⟩ h
  have c:∀b,b<4→w'.cell? ⟨b,0,none⟩=w.cell? ⟨b,0,none⟩:=fun b hb=>World.cell?_of_block (a:=⟨b,0,none⟩) (h b hb)
  exact⟨⟨m,(c 0 (by decide)).trans hm⟩,⟨e3,(c 1 (by decide)).trans h3,k3⟩,⟨e4,(c 2 (by decide)).trans h4,k4⟩,J2d (g:=3) (by kernel_rfl) ht (h 3 (by decide))⟩
 bT:=some 60
 be:=5
 eqT:=X1m V3c
 pT:=some 62
 pe1:=5
 pe2:=51
 psz:=9
 hpT:=by
  intro t ht w
  cases ht
  kernel_rfl
 ownT:=fun t=>([36,37,70,83]:List Nat).contains t
 hEq:=fun t ks h=>J1c X4z h
 hbT:=by
  intro t ht w
  cases ht
  kernel_rfl
theorem X7g:env.pT=some 62:=rfl
theorem K0l:env.pe1=5:=rfl
theorem K0k:env.pe2=51:=rfl
theorem K0j:env.psz=9:=rfl
theorem X1a:J2y env.T 4=true:=rfl
theorem T_3:env.T 3=some ⟨.int .i64,1,8,some [.int .i64 0]⟩:=rfl
theorem T_4:env.T 4=some ⟨.bool,1,1,some [.bool false]⟩:=rfl
theorem T_5:env.T 5=some ⟨.int .u8,1,1,some [.int .u8 0]⟩:=rfl
theorem T_9:env.T 9=some ⟨.str,1,16,some [.str []]⟩:=rfl
theorem T_23:env.T 23=some ⟨.slice 36,1,24,some [.slice []]⟩:=rfl
theorem T_24:env.T 24=some ⟨.int .i64,1,8,some [.int .i64 0]⟩:=rfl
theorem T_33:env.T 33=some ⟨.slice 49,1,24,some [.slice []]⟩:=rfl
theorem T_34:env.T 34=some ⟨.slice 51,1,24,some [.slice []]⟩:=rfl
theorem T_36:env.T 36=some ⟨.strct [(0,1),(1,1),(2,1),(3,1),(4,1),(5,1)],6,104,some [.int .i64 0,.int .i64 0,.str [],.slice [],.slice [],.slice []]⟩:=rfl
theorem T_37:env.T 37=some ⟨.slice 87,1,24,some [.slice []]⟩:=rfl
theorem T_42:env.T 42=some ⟨.slice 9,1,24,some [.slice []]⟩:=rfl
theorem T_49:env.T 49=some ⟨.strct [(0,1),(1,1),(2,1),(3,1),(4,1)],5,88,some [.int .i64 0,.str [],.str [],.slice [],.slice []]⟩:=rfl
theorem T_51:env.T 51=some ⟨.strct [(0,1),(1,1),(2,1),(3,5),(8,1)],9,120,some [.int .i64 0,.int .i64 0,.int .i64 0,.int .i64 0,.str [],.str [],.slice [],.slice [],.bool false]⟩:=rfl
theorem T_57:env.T 57=some ⟨.ptr 60,1,8,some [.nilp]⟩:=rfl
theorem T_58:env.T 58=some ⟨.slice 5,1,24,some [.slice []]⟩:=rfl
theorem T_60:env.T 60=some ⟨.strct [(0,1),(1,1)],2,32,some [.nilp,.slice []]⟩:=rfl
theorem T_62:env.T 62=some ⟨.strct [(0,2),(2,1)],3,56,some [.nilp,.slice [],.slice []]⟩:=rfl
theorem T_65:env.T 65=some ⟨.ptr 67,1,8,some [.nilp]⟩:=rfl
theorem T_67:env.T 67=some ⟨.strct [(0,1),(1,1)],2,32,some [.str [],.str []]⟩:=rfl
theorem T_68:env.T 68=some ⟨.ptr 70,1,8,some [.nilp]⟩:=rfl
theorem T_70:env.T 70=some ⟨.strct [(0,1),(1,1),(2,1),(3,1),(4,1),(5,1),(6,1)],7,96,some [.str [],.int .i64 0,.slice [],.slice [],.int .i64 0,.int .i64 0,.int .i64 0]⟩:=rfl
theorem T_75:env.T 75=some ⟨.ptr 77,1,8,some [.nilp]⟩:=rfl
theorem T_77:env.T 77=some ⟨.strct [(0,1),(1,1),(2,1),(3,1)],4,72,some [.str [],.slice [],.slice [],.int .i64 0]⟩:=rfl
theorem T_87:env.T 87=some ⟨.strct [(0,1),(1,1),(2,1),(3,1)],4,48,some [.int .i64 0,.int .i64 0,.str [],.str []]⟩:=rfl
theorem T_94:env.T 94=some ⟨.ptr 62,1,8,some [.nilp]⟩:=rfl
theorem T_96:env.T 96=some ⟨.ptr 5,1,8,some [.nilp]⟩:=rfl
theorem Y0j:env.T 104=some ⟨.slice 3,1,24,some [.slice []]⟩:=rfl
theorem Y0i:env.T 118=some ⟨.strct [(0,1),(1,1),(2,1)],3,3,some [.bool false,.bool false,.bool false]⟩:=rfl
theorem X2e:env.T 133=some ⟨.iface,1,16,some [.nil]⟩:=rfl
theorem X9f:env.ownT 23=false:=rfl
theorem X9e:env.ownT 33=false:=rfl
theorem X9d:env.ownT 34=false:=rfl
theorem X9c:env.ownT 36=true:=rfl
theorem X9b:env.ownT 37=true:=rfl
theorem X9a:env.ownT 42=false:=rfl
theorem X8z:env.ownT 49=false:=rfl
theorem X8y:env.ownT 51=false:=rfl
theorem X8x:env.ownT 58=false:=rfl
theorem X8w:env.ownT 67=false:=rfl
theorem X8v:env.ownT 70=true:=rfl
theorem X8u:env.ownT 87=false:=rfl
theorem X4b:env.ownT 104=false:=rfl
theorem X4a:env.ownT 118=false:=rfl
theorem Y0a:env.eqT 3=none:=rfl
theorem V9z:env.eqT 4=none:=rfl
theorem V9y:env.eqT 5=none:=rfl
theorem V9x:env.eqT 9=none:=rfl
theorem V3d:env.eqT 24=none:=rfl
theorem K0i:env.eqT 133=none:=rfl
theorem K3g(p:PV):qmkI env 73 (.pv p)=some (.ifc 73 p):=by
 simp only[qmkI]
 rw[show env.P.underlying 73=_ from Tryz.underlying73]
theorem X8q(cs:List PV):Q8b env 87 0 (.pv (.agg cs))=(Q4a ⟨.int .i64,1,8,some [.int .i64 0]⟩ (cs.drop 0)).map .pv:=by
 have h:fieldAt env 87 0=some (0,3):=by kernel_rfl
 unfold Q8b
 rw[h]
 simp only[Z3m,T_3]
theorem X8p(cs:List PV):Q8b env 87 1 (.pv (.agg cs))=(Q4a ⟨.int .i64,1,8,some [.int .i64 0]⟩ (cs.drop 1)).map .pv:=by
 have h:fieldAt env 87 1=some (1,3):=by kernel_rfl
 unfold Q8b
 rw[h]
 simp only[Z3m,T_3]
theorem X8o(cs:List PV):Q8b env 87 2 (.pv (.agg cs))=(Q4a ⟨.str,1,16,some [.str []]⟩ (cs.drop 2)).map .pv:=by
 have h:fieldAt env 87 2=some (2,9):=by kernel_rfl
 unfold Q8b
 rw[h]
 simp only[Z3m,T_9]
abbrev syn(n:Int):Value:=.iface 73 (.int .i64 n)
theorem mixed:env.P.follows .mixedOrders=true:=by kernel_rfl
theorem V3e:env.bT=some 60:=rfl
theorem Y0b:env.P=Tryz.prog:=rfl
theorem fnq{f:FuncId}{fn:Func}(h:Tryz.prog.funcs[f]?=some fn):env.P.funcs[f]?=some fn:=h
def fn_5:=fnq Tryz.func5
def fn_7:=fnq Tryz.func7
def fn_8:=fnq Tryz.func8
def V9w:=fnq Tryz.func12
def V9v:=fnq Tryz.func13
def V9u:=fnq Tryz.func14
def V1n:=fnq Tryz.func15
def V1e:=fnq Tryz.func16
def V9t:=fnq Tryz.func17
def V9s:=fnq Tryz.func18
def V9r:=fnq Tryz.func19
def V0k:=fnq Tryz.func20
def V9q:=fnq Tryz.func21
def K9l:=fnq Tryz.func25
def K8v:=fnq Tryz.func28
def V9p:=fnq Tryz.func29
def V9o:=fnq Tryz.func30
def K8r:=fnq Tryz.func31
def V9n:=fnq Tryz.func32
def K8q:=fnq Tryz.func33
def V9m:=fnq Tryz.func34
def V9l:=fnq Tryz.func35
def K0h:=fnq Tryz.func36
def V9k:=fnq Tryz.func37
def V9j:=fnq Tryz.func38
def V9i:=fnq Tryz.func39
def V9h:=fnq Tryz.func40
def V9g:=fnq Tryz.func41
def V9f:=fnq Tryz.func42
def V9e:=fnq Tryz.func43
def V9d:=fnq Tryz.func44
def V9c:=fnq Tryz.func46
def V9b:=fnq Tryz.func47
def V9a:=fnq Tryz.func48
def X4y:=fnq Tryz.func49
def V8z:=fnq Tryz.func50
def K8p:=fnq Tryz.func51
def K8o:=fnq Tryz.func61
def K8n:=fnq Tryz.func62
def V8y:=fnq Tryz.func63
def V8x:=fnq Tryz.func64
def V8w:=fnq Tryz.func65
def K8m:=fnq Tryz.func66
def V8v:=fnq Tryz.func67
def K8l:=fnq Tryz.func68
def V8u:=fnq Tryz.func69
def V8t:=fnq Tryz.func71
def V8s:=fnq Tryz.func72
def V8r:=fnq Tryz.func73
def V8q:=fnq Tryz.func74
def V8p:=fnq Tryz.func75
def V8o:=fnq Tryz.func76
def V8n:=fnq Tryz.func77
def V8m:=fnq Tryz.func78
def V8l:=fnq Tryz.func79
def V8k:=fnq Tryz.func80
def V8j:=fnq Tryz.func81
def V8i:=fnq Tryz.func82
def V8h:=fnq Tryz.func83
def V8g:=fnq Tryz.func84
def X4x:=fnq Tryz.func85
def K8k:=fnq Tryz.func86
def K8j:=fnq Tryz.func98
def V8f:=fnq Tryz.func99
def V3a:=fnq Tryz.func100
def X7f:=fnq Tryz.func101
def V2z:=fnq Tryz.func102
def V2y:=fnq Tryz.func103
def V2x:=fnq Tryz.func104
def V2w:=fnq Tryz.func105
def V2v:=fnq Tryz.func106
def V2u:=fnq Tryz.func107
def V2t:=fnq Tryz.func108
def V2s:=fnq Tryz.func109
def V2r:=fnq Tryz.func110
def V2q:=fnq Tryz.func111
def V2p:=fnq Tryz.func112
def V2o:=fnq Tryz.func113
def V2n:=fnq Tryz.func114
def V2m:=fnq Tryz.func115
def V2l:=fnq Tryz.func117
def V2k:=fnq Tryz.func118
def V2j:=fnq Tryz.func119
def V2i:=fnq Tryz.func120
def V2h:=fnq Tryz.func121
def V2g:=fnq Tryz.func122
def X7e:=fnq Tryz.func123
def V2f:=fnq Tryz.func124
def V2e:=fnq Tryz.func125
def V2d:=fnq Tryz.func126
def V2c:=fnq Tryz.func127
def V2b:=fnq Tryz.func128
def V2a:=fnq Tryz.func129
def V1z:=fnq Tryz.func130
def V1y:=fnq Tryz.func131
def V1x:=fnq Tryz.func132
def V1w:=fnq Tryz.func133
def V1v:=fnq Tryz.func134
def V1u:=fnq Tryz.func143
def V1t:=fnq Tryz.func144
def V1s:=fnq Tryz.func145
def V1r:=fnq Tryz.func146
def V1q:=fnq Tryz.func147
def V1p:=fnq Tryz.func148
def V1o:=fnq Tryz.func149
def V1m:=fnq Tryz.func150
def V1l:=fnq Tryz.func151
def X7d:=fnq Tryz.func152
def V1k:=fnq Tryz.func153
def V1j:=fnq Tryz.func154
def V1i:=fnq Tryz.func155
def V1h:=fnq Tryz.func156
def V1g:=fnq Tryz.func157
def X7c:=fnq Tryz.func158
def V1f:=fnq Tryz.func159
def V1d:=fnq Tryz.func160
def V1c:=fnq Tryz.func161
def V1b:=fnq Tryz.func163
def V1a:=fnq Tryz.func166
def V0z:=fnq Tryz.func167
def V0y:=fnq Tryz.func168
def V0x:=fnq Tryz.func169
def V0w:=fnq Tryz.func171
def V0v:=fnq Tryz.func172
def X7b:=fnq Tryz.func182
def V0u:=fnq Tryz.func183
def X7a:=fnq Tryz.func184
def V0t:=fnq Tryz.func185
def V0s:=fnq Tryz.func186
def V0r:=fnq Tryz.func187
def V0q:=fnq Tryz.func188
def V0p:=fnq Tryz.func189
def V0o:=fnq Tryz.func190
def V0n:=fnq Tryz.func191
def V0m:=fnq Tryz.func193
def V0l:=fnq Tryz.func199
def X6z:=fnq Tryz.func200
def V0j:=fnq Tryz.func207
def V0i:=fnq Tryz.func208
def V0h:=fnq Tryz.func209
def V0g:=fnq Tryz.func210
def V0f:=fnq Tryz.func211
def V0e:=fnq Tryz.func212
def V0d:=fnq Tryz.func213
def V0c:=fnq Tryz.func214
def V0b:=fnq Tryz.func216
def V0a:=fnq Tryz.func223
def K9z:=fnq Tryz.func224
def K9y:=fnq Tryz.func225
def K9x:=fnq Tryz.func226
def K9w:=fnq Tryz.func227
def K9v:=fnq Tryz.func228
def K9u:=fnq Tryz.func229
def K9t:=fnq Tryz.func230
def K9s:=fnq Tryz.func231
def X6y:=fnq Tryz.func232
def K9r:=fnq Tryz.func233
def K9q:=fnq Tryz.func234
def K9p:=fnq Tryz.func235
def K9o:=fnq Tryz.func236
def K9n:=fnq Tryz.func237
def K9m:=fnq Tryz.func238
def X6x:=fnq Tryz.func252
def K9k:=fnq Tryz.func253
def K9j:=fnq Tryz.func254
def K9i:=fnq Tryz.func255
def K9h:=fnq Tryz.func256
def K9g:=fnq Tryz.func257
def K9f:=fnq Tryz.func258
def X6w:=fnq Tryz.func259
def X6v:=fnq Tryz.func260
def K9e:=fnq Tryz.func261
def K9d:=fnq Tryz.func262
def K9c:=fnq Tryz.func263
def K9b:=fnq Tryz.func264
def K9a:=fnq Tryz.func274
def K8z:=fnq Tryz.func275
def K8y:=fnq Tryz.func276
def K8x:=fnq Tryz.func277
def K8w:=fnq Tryz.func278
def K8u:=fnq Tryz.func286
def K8t:=fnq Tryz.func287
def K8s:=fnq Tryz.func288
mutual
structure Cmd where
 kind_:Int
 at_:Int
 name_:Str
 words_:List Word
 redirs_:List Redir
 kids_:List Cmd
structure Word where
 kind_:Int
 text_:Str
 quoted_:Str
 words_:List Word
 cmd_:List Cmd
structure Redir where
 kind_:Int
 fd_:Int
 from_:Int
 word_:Word
 raw_:Bool
end
instance:Inhabited Cmd:=⟨⟨0,0,[],[],[],[]⟩⟩
instance:Inhabited Word:=⟨⟨0,[],[],[],[]⟩⟩
instance:Inhabited Redir:=⟨⟨0,0,0,default,false⟩⟩
mutual
def Cmd.cells:Cmd→List PV
 | ⟨a1,a2,a3,a4,a5,a6⟩=>[.int .i64 a1,.int .i64 a2,.str a3,.slice (Word.pvs a4),.slice (Redir.pvs a5),.slice (Cmd.pvs a6)]
def Cmd.pvs:List Cmd→List PV
 | []=>[]
 | x::r=>PV.agg x.cells::Cmd.pvs r
def Word.cells:Word→List PV
 | ⟨a1,a2,a3,a4,a5⟩=>[.int .i64 a1,.str a2,.str a3,.slice (Word.pvs a4),.slice (Cmd.pvs a5)]
def Word.pvs:List Word→List PV
 | []=>[]
 | x::r=>PV.agg x.cells::Word.pvs r
def Redir.cells:Redir→List PV
 | ⟨a1,a2,a3,⟨a4,a5,a6,a7,a8⟩,a9⟩=>[.int .i64 a1,.int .i64 a2,.int .i64 a3,.int .i64 a4,.str a5,.str a6,.slice (Word.pvs a7),.slice (Cmd.pvs a8),.bool a9]
def Redir.pvs:List Redir→List PV
 | []=>[]
 | x::r=>PV.agg x.cells::Redir.pvs r
end
def Cmd.pv(x:Cmd):PV:=.agg x.cells
theorem Cmd.pvs_eq:∀xs:List Cmd,Cmd.pvs xs=xs.map Cmd.pv
 | []=>by rw[Cmd.pvs];rfl
 | x::r=>by rw[Cmd.pvs,Cmd.pvs_eq r];rfl
def Word.pv(x:Word):PV:=.agg x.cells
theorem Word.pvs_eq:∀xs:List Word,Word.pvs xs=xs.map Word.pv
 | []=>by rw[Word.pvs];rfl
 | x::r=>by rw[Word.pvs,Word.pvs_eq r];rfl
def Redir.pv(x:Redir):PV:=.agg x.cells
theorem Redir.pvs_eq:∀xs:List Redir,Redir.pvs xs=xs.map Redir.pv
 | []=>by rw[Redir.pvs];rfl
 | x::r=>by rw[Redir.pvs,Redir.pvs_eq r];rfl
theorem Cmd.pv_eq(x:Cmd):x.pv=.agg [.int .i64 x.kind_,.int .i64 x.at_,.str x.name_,.slice (List.map Word.pv x.words_),.slice (List.map Redir.pv x.redirs_),.slice (List.map Cmd.pv x.kids_)]:=by
 obtain⟨a1,a2,a3,a4,a5,a6⟩:=x
 simp only[Cmd.pv,Cmd.cells,Cmd.pvs_eq,Word.pvs_eq,Redir.pvs_eq]
theorem Word.pv_eq(x:Word):x.pv=.agg [.int .i64 x.kind_,.str x.text_,.str x.quoted_,.slice (List.map Word.pv x.words_),.slice (List.map Cmd.pv x.cmd_)]:=by
 obtain⟨a1,a2,a3,a4,a5⟩:=x
 simp only[Word.pv,Word.cells,Cmd.pvs_eq,Word.pvs_eq,Redir.pvs_eq]
theorem Redir.pv_eq(x:Redir):x.pv=.agg [.int .i64 x.kind_,.int .i64 x.fd_,.int .i64 x.from_,.int .i64 x.word_.kind_,.str x.word_.text_,.str x.word_.quoted_,.slice (List.map Word.pv x.word_.words_),.slice (List.map Cmd.pv x.word_.cmd_),.bool x.raw_]:=by
 obtain⟨a1,a2,a3,⟨a4,a5,a6,a7,a8⟩,a9⟩:=x
 simp only[Redir.pv,Redir.cells,Cmd.pvs_eq,Word.pvs_eq,Redir.pvs_eq]
mutual
theorem Cmd.cinj:∀ (x y:Cmd),x.cells=y.cells→x=y
 | ⟨a1,a2,a3,a4,a5,a6⟩,⟨b1,b2,b3,b4,b5,b6⟩,h=>by
  simp only[Cmd.cells,List.cons.injEq,PV.slice.injEq,and_true]at h
  obtain⟨h1,h2,h3,h4,h5,h6⟩:=h
  cases(Q2t h1)
  cases(Q2t h2)
  cases(Q6s h3)
  cases Word.injs _ _ h4
  cases Redir.injs _ _ h5
  cases Cmd.injs _ _ h6
  rfl
theorem Cmd.injs:∀ (x y:List Cmd),Cmd.pvs x=Cmd.pvs y→x=y
 | [],[],_=>rfl
 | [],y::ys,h=>by simp[Cmd.pvs]at h
 | x::xs,[],h=>by simp[Cmd.pvs]at h
 | x::xs,y::ys,h=>by
  simp only[Cmd.pvs,List.cons.injEq,PV.agg.injEq]at h
  rw[Cmd.cinj x y h.1,Cmd.injs xs ys h.2]
theorem Word.cinj:∀ (x y:Word),x.cells=y.cells→x=y
 | ⟨a1,a2,a3,a4,a5⟩,⟨b1,b2,b3,b4,b5⟩,h=>by
  simp only[Word.cells,List.cons.injEq,PV.slice.injEq,and_true]at h
  obtain⟨h1,h2,h3,h4,h5⟩:=h
  cases(Q2t h1)
  cases(Q6s h2)
  cases(Q6s h3)
  cases Word.injs _ _ h4
  cases Cmd.injs _ _ h5
  rfl
theorem Word.injs:∀ (x y:List Word),Word.pvs x=Word.pvs y→x=y
 | [],[],_=>rfl
 | [],y::ys,h=>by simp[Word.pvs]at h
 | x::xs,[],h=>by simp[Word.pvs]at h
 | x::xs,y::ys,h=>by
  simp only[Word.pvs,List.cons.injEq,PV.agg.injEq]at h
  rw[Word.cinj x y h.1,Word.injs xs ys h.2]
theorem Redir.cinj:∀ (x y:Redir),x.cells=y.cells→x=y
 | ⟨a1,a2,a3,⟨a4,a5,a6,a7,a8⟩,a9⟩,⟨b1,b2,b3,⟨b4,b5,b6,b7,b8⟩,b9⟩,h=>by
  simp only[Redir.cells,List.cons.injEq,PV.slice.injEq,and_true]at h
  obtain⟨h1,h2,h3,h4,h5,h6,h7,h8,h9⟩:=h
  cases(Q2t h1)
  cases(Q2t h2)
  cases(Q2t h3)
  cases(Q2t h4)
  cases(Q6s h5)
  cases(Q6s h6)
  cases Word.injs _ _ h7
  cases Cmd.injs _ _ h8
  cases(Q9t h9)
  rfl
theorem Redir.injs:∀ (x y:List Redir),Redir.pvs x=Redir.pvs y→x=y
 | [],[],_=>rfl
 | [],y::ys,h=>by simp[Redir.pvs]at h
 | x::xs,[],h=>by simp[Redir.pvs]at h
 | x::xs,y::ys,h=>by
  simp only[Redir.pvs,List.cons.injEq,PV.agg.injEq]at h
  rw[Redir.cinj x y h.1,Redir.injs xs ys h.2]
end
theorem Cmd.inj{x y:Cmd}(h:x.pv=y.pv):x=y:=Cmd.cinj x y (PV.agg.inj h)
theorem Cmd.injA{x y:Cmd}(h:PV.agg [.int .i64 (x.kind_),.int .i64 (x.at_),.str (x.name_),.slice (List.map Word.pv (x.words_)),.slice (List.map Redir.pv (x.redirs_)),.slice (List.map Cmd.pv (x.kids_))]=PV.agg [.int .i64 (y.kind_),.int .i64 (y.at_),.str (y.name_),.slice (List.map Word.pv (y.words_)),.slice (List.map Redir.pv (y.redirs_)),.slice (List.map Cmd.pv (y.kids_))]):x=y:=Cmd.inj ((Cmd.pv_eq x).trans (h.trans (Cmd.pv_eq y).symm))
theorem Cmd.all(xs:List Cmd):((xs.map Cmd.pv).all fun z=>z.cells.length==6)=true:=by
 simp[Cmd.pv_eq,PV.cells]
theorem Word.inj{x y:Word}(h:x.pv=y.pv):x=y:=Word.cinj x y (PV.agg.inj h)
theorem Word.injA{x y:Word}(h:PV.agg [.int .i64 (x.kind_),.str (x.text_),.str (x.quoted_),.slice (List.map Word.pv (x.words_)),.slice (List.map Cmd.pv (x.cmd_))]=PV.agg [.int .i64 (y.kind_),.str (y.text_),.str (y.quoted_),.slice (List.map Word.pv (y.words_)),.slice (List.map Cmd.pv (y.cmd_))]):x=y:=Word.inj ((Word.pv_eq x).trans (h.trans (Word.pv_eq y).symm))
theorem Word.all(xs:List Word):((xs.map Word.pv).all fun z=>z.cells.length==5)=true:=by
 simp[Word.pv_eq,PV.cells]
theorem Redir.inj{x y:Redir}(h:x.pv=y.pv):x=y:=Redir.cinj x y (PV.agg.inj h)
theorem Redir.injA{x y:Redir}(h:PV.agg [.int .i64 (x.kind_),.int .i64 (x.fd_),.int .i64 (x.from_),.int .i64 (x.word_.kind_),.str (x.word_.text_),.str (x.word_.quoted_),.slice (List.map Word.pv (x.word_.words_)),.slice (List.map Cmd.pv (x.word_.cmd_)),.bool (x.raw_)]=PV.agg [.int .i64 (y.kind_),.int .i64 (y.fd_),.int .i64 (y.from_),.int .i64 (y.word_.kind_),.str (y.word_.text_),.str (y.word_.quoted_),.slice (List.map Word.pv (y.word_.words_)),.slice (List.map Cmd.pv (y.word_.cmd_)),.bool (y.raw_)]):x=y:=Redir.inj ((Redir.pv_eq x).trans (h.trans (Redir.pv_eq y).symm))
theorem Redir.all(xs:List Redir):((xs.map Redir.pv).all fun z=>z.cells.length==9)=true:=by
 simp[Redir.pv_eq,PV.cells]
def P23(xs:List Cmd):PV:=.slice (xs.map Cmd.pv)
theorem J1o(xs:List Cmd):P23 xs=.slice (xs.map Cmd.pv):=rfl
theorem K0y{x y:List Cmd}(h:P23 x=P23 y):x=y:=Q5t (fun _ _=>Cmd.inj) (PV.slice.inj h)
def P33(xs:List Word):PV:=.slice (xs.map Word.pv)
theorem J1n(xs:List Word):P33 xs=.slice (xs.map Word.pv):=rfl
theorem K0x{x y:List Word}(h:P33 x=P33 y):x=y:=Q5t (fun _ _=>Word.inj) (PV.slice.inj h)
def P34(xs:List Redir):PV:=.slice (xs.map Redir.pv)
theorem J1m(xs:List Redir):P34 xs=.slice (xs.map Redir.pv):=rfl
theorem K0w{x y:List Redir}(h:P34 x=P34 y):x=y:=Q5t (fun _ _=>Redir.inj) (PV.slice.inj h)
structure Token where
 kind_:Int
 at_:Int
 text_:Str
 quoted_:Str
instance:Inhabited Token:=⟨⟨0,0,[],[]⟩⟩
def Token.pv(x:Token):PV:=.agg [.int .i64 x.kind_,.int .i64 x.at_,.str x.text_,.str x.quoted_]
theorem Token.pv_eq(x:Token):x.pv=.agg [.int .i64 x.kind_,.int .i64 x.at_,.str x.text_,.str x.quoted_]:=rfl
theorem Token.inj{x y:Token}(h:x.pv=y.pv):x=y:=by
 obtain⟨a1,a2,a3,a4⟩:=x
 obtain⟨b1,b2,b3,b4⟩:=y
 simp only[Token.pv,PV.agg.injEq,List.cons.injEq,and_true]at h
 obtain⟨h1,h2,h3,h4⟩:=h
 cases(Q2t h1)
 cases(Q2t h2)
 cases(Q6s h3)
 cases(Q6s h4)
 rfl
theorem Token.all(xs:List Token):((xs.map Token.pv).all fun z=>z.cells.length==4)=true:=by
 simp[Token.pv,PV.cells]
structure Shape where
 name_:Bool
 words_:Bool
 redirs_:Bool
instance:Inhabited Shape:=⟨⟨false,false,false⟩⟩
def Shape.pv(x:Shape):PV:=.agg [.bool x.name_,.bool x.words_,.bool x.redirs_]
theorem Shape.pv_eq(x:Shape):x.pv=.agg [.bool x.name_,.bool x.words_,.bool x.redirs_]:=rfl
theorem Shape.inj{x y:Shape}(h:x.pv=y.pv):x=y:=by
 obtain⟨a1,a2,a3⟩:=x
 obtain⟨b1,b2,b3⟩:=y
 simp only[Shape.pv,PV.agg.injEq,List.cons.injEq,and_true]at h
 obtain⟨h1,h2,h3⟩:=h
 cases(Q9t h1)
 cases(Q9t h2)
 cases(Q9t h3)
 rfl
def pfn:FuncId→Bool:=fun f=>[7,8,12,13,14,15,16,17,18,19,20,21,25,28,29,30,31,32,33,34,40,42,50,51,61,62,63,64,65,72,74,83,86,98,99,100,101,108,109,117,118,119,124,125,126,128,129,130,133,134,143,144,145,146,147,148,149,150,155,156,157,159,160,161,166,169,171,172,182,183,184,185,186,187,188,189,193,199,207,208,209,210,211,212,213,214,216,233,234,236,237,238,260,261,263,264,275,276,277,278,287,288].contains f
def TYS:=And.intro V3e (
 And.intro X7g (
 And.intro K0l (
 And.intro K0k (
 And.intro K0j (
 And.intro X1a (
 And.intro T_3 (
 And.intro T_4 (
 And.intro T_5 (
 And.intro T_9 (
 And.intro T_23 (
 And.intro T_24 (
 And.intro T_33 (
 And.intro T_34 (
 And.intro T_36 (
 And.intro T_37 (
 And.intro T_42 (
 And.intro T_49 (
 And.intro T_51 (
 And.intro T_57 (
 And.intro T_58 (
 And.intro T_60 (
 And.intro T_62 (
 And.intro T_65 (
 And.intro T_67 (
 And.intro T_68 (
 And.intro T_70 (
 And.intro T_75 (
 And.intro T_77 (
 And.intro T_87 (
 And.intro T_94 (
 And.intro Y0j (
 And.intro Y0i (
 And.intro X2e (
 And.intro X9f (
 And.intro X9e (
 And.intro X9d (
 And.intro X9c (
 And.intro X9b (
 And.intro X9a (
 And.intro X8z (
 And.intro X8y (
 And.intro X8x (
 And.intro X8w (
 And.intro X8v (
 And.intro X8u (
 And.intro X4b (
 And.intro X4a (
 And.intro Y0a (
 And.intro V9z (
 And.intro V9y (
 And.intro V9x (
 And.intro V3d (
 And.intro K0i (
 And.intro @K3g (
 And.intro @X8q (
 And.intro @X8p (
 And.intro @X8o (
 And.intro @X8j (
 And.intro @X9q (
 And.intro @X5g (
 And.intro @J1o (
 And.intro @Word.pv_eq (
 And.intro @J1n (
 And.intro @Redir.pv_eq (
 And.intro @J1m (
 And.intro @Cmd.pv_eq (
 And.intro @Token.pv_eq (
 And.intro @Shape.pv_eq (
 And.intro @Cmd.all (
 And.intro @Word.all (
 And.intro @Redir.all (
 @Token.all))))))))))))))))))))))))))))))))))))))))))))))))))))))))))))))))))))))))
theorem X8h(x y:List UInt8):(PV.str x=PV.str y)=(x=y):=PV.str.injEq x y
theorem X9n(k:IntKind)(x y:Int):(PV.int k x=PV.int k y)=(x=y):=propext ⟨Q2t,fun h=>by rw[h]⟩
theorem X5f(x y:Bool):(PV.bool x=PV.bool y)=(x=y):=PV.bool.injEq x y
theorem J9n(x y:List PV):(PV.slice x=PV.slice y)=(x=y):=PV.slice.injEq x y
theorem Q2e{α:Type}{f:α→PV}(hf:∀x y,f x=f y→x=y)(x y:List α):(List.map f x=List.map f y)=(x=y):=propext ⟨Q5t hf,fun h=>by rw[h]⟩
theorem Word.iff(x y:Word):(PV.agg [.int .i64 (x.kind_),.str (x.text_),.str (x.quoted_),.slice (List.map Word.pv (x.words_)),.slice (List.map Cmd.pv (x.cmd_))]=PV.agg [.int .i64 (y.kind_),.str (y.text_),.str (y.quoted_),.slice (List.map Word.pv (y.words_)),.slice (List.map Cmd.pv (y.cmd_))])=(x=y):=propext ⟨Word.injA (x:=x) (y:=y),fun h=>by rw[h]⟩
theorem Redir.iff(x y:Redir):(PV.agg [.int .i64 (x.kind_),.int .i64 (x.fd_),.int .i64 (x.from_),.int .i64 (x.word_.kind_),.str (x.word_.text_),.str (x.word_.quoted_),.slice (List.map Word.pv (x.word_.words_)),.slice (List.map Cmd.pv (x.word_.cmd_)),.bool (x.raw_)]=PV.agg [.int .i64 (y.kind_),.int .i64 (y.fd_),.int .i64 (y.from_),.int .i64 (y.word_.kind_),.str (y.word_.text_),.str (y.word_.quoted_),.slice (List.map Word.pv (y.word_.words_)),.slice (List.map Cmd.pv (y.word_.cmd_)),.bool (y.raw_)])=(x=y):=propext ⟨Redir.injA (x:=x) (y:=y),fun h=>by rw[h]⟩
theorem Cmd.iff(x y:Cmd):(PV.agg [.int .i64 (x.kind_),.int .i64 (x.at_),.str (x.name_),.slice (List.map Word.pv (x.words_)),.slice (List.map Redir.pv (x.redirs_)),.slice (List.map Cmd.pv (x.kids_))]=PV.agg [.int .i64 (y.kind_),.int .i64 (y.at_),.str (y.name_),.slice (List.map Word.pv (y.words_)),.slice (List.map Redir.pv (y.redirs_)),.slice (List.map Cmd.pv (y.kids_))])=(x=y):=propext ⟨Cmd.injA (x:=x) (y:=y),fun h=>by rw[h]⟩
theorem Token.iff(x y:Token):(PV.agg [.int .i64 (x.kind_),.int .i64 (x.at_),.str (x.text_),.str (x.quoted_)]=PV.agg [.int .i64 (y.kind_),.int .i64 (y.at_),.str (y.text_),.str (y.quoted_)])=(x=y):=propext ⟨Token.inj (x:=x) (y:=y),fun h=>by rw[h]⟩
theorem Shape.iff(x y:Shape):(PV.agg [.bool (x.name_),.bool (x.words_),.bool (x.redirs_)]=PV.agg [.bool (y.name_),.bool (y.words_),.bool (y.redirs_)])=(x=y):=propext ⟨Shape.inj (x:=x) (y:=y),fun h=>by rw[h]⟩
theorem V6f(x y):(List.map PV.str x=List.map PV.str y)=(x=y):=Q2e (fun _ _=>Q6s) x y
theorem V6e(x y):(List.map PV.bool x=List.map PV.bool y)=(x=y):=Q2e (fun _ _=>Q9t) x y
theorem V6d(x y):(List.map (PV.int .i32) x=List.map (PV.int .i32) y)=(x=y):=Q2e (fun _ _=>Q2t) x y
theorem V6c(x y):(List.map (PV.int .i64) x=List.map (PV.int .i64) y)=(x=y):=Q2e (fun _ _=>Q2t) x y
theorem V6b(x y):(List.map (PV.int .u32) x=List.map (PV.int .u32) y)=(x=y):=Q2e (fun _ _=>Q2t) x y
theorem V6a(x y):(List.map (PV.int .u64) x=List.map (PV.int .u64) y)=(x=y):=Q2e (fun _ _=>Q2t) x y
theorem V5z(x y):(List.map (PV.int .u8) x=List.map (PV.int .u8) y)=(x=y):=Q2e (fun _ _=>Q2t) x y
theorem V5y(x y):(List.map P23 x=List.map P23 y)=(x=y):=Q2e (fun _ _=>K0y) x y
theorem V5x(x y):(List.map Word.pv x=List.map Word.pv y)=(x=y):=Q2e (fun _ _=>Word.inj) x y
theorem V5w(x y):(List.map P33 x=List.map P33 y)=(x=y):=Q2e (fun _ _=>K0x) x y
theorem K3l(x y):(List.map Redir.pv x=List.map Redir.pv y)=(x=y):=Q2e (fun _ _=>Redir.inj) x y
theorem K3k(x y):(List.map P34 x=List.map P34 y)=(x=y):=Q2e (fun _ _=>K0w) x y
theorem K3j(x y):(List.map Cmd.pv x=List.map Cmd.pv y)=(x=y):=Q2e (fun _ _=>Cmd.inj) x y
theorem K3i(x y):(List.map Token.pv x=List.map Token.pv y)=(x=y):=Q2e (fun _ _=>Token.inj) x y
theorem K3h(x y):(List.map Shape.pv x=List.map Shape.pv y)=(x=y):=Q2e (fun _ _=>Shape.inj) x y
def INJS:=And.intro @X8h (
 And.intro @X9n (
 And.intro @X5f (
 And.intro @J9n (
 And.intro @Word.iff (
 And.intro @Redir.iff (
 And.intro @Cmd.iff (
 And.intro @Token.iff (
 And.intro @Shape.iff (
 And.intro @V6f (
 And.intro @V6e (
 And.intro @V6d (
 And.intro @V6c (
 And.intro @V6b (
 And.intro @V6a (
 And.intro @V5z (
 And.intro @V5y (
 And.intro @V5x (
 And.intro @V5w (
 And.intro @K3l (
 And.intro @K3k (
 And.intro @K3j (
 And.intro @K3i (
 @K3h)))))))))))))))))))))))
def mkS(f:Nat){α ρ:Type}(F:α→Option ρ)(A:α→List AV×List AObj)(R:α→ρ→Out)(h:∀x y,A x=A y→x=y:=by
 (first|(intro _ _ _;rfl)|((try simp only[Prod.forall]);intros;rename_i h;simp only[Prod.mk.injEq,List.cons.injEq,AV.pv.injEq,AV.agg.injEq,AV.vec.injEq,AV.full.injEq,AObj.bld.injEq,AObj.prn.injEq,AObj.map.injEq,AObj.row.injEq,AObj.var.injEq,INJS,and_true,true_and,and_assoc]at h;first|exact h|(simp only[h,and_self,Prod.mk.injEq,and_true,true_and])|(obtain⟨_,h⟩:=h;exact h)))):Spec:=⟨f,α,ρ,F,A,R,h⟩
theorem bq1:(true==false)=false:=rfl
theorem bq2:(false==true)=false:=rfl
theorem an{a b:Prop}(x:a)(y:b):a∧b:=⟨x,y⟩
theorem obs{α β:Type}{o:Option α}{f:α→Option β}{b:β}(h:o.bind f=some b):∃a,o=some a∧f a=some b:=Option.bind_eq_some_iff.1 h
theorem fin{E:Env}{rv:List ResultVar}{m:Nat}{e:List Nat}{σ:St}{x:Option (List AV×List AObj)}(h:Z6g E rv m e σ=x∨Z0k E rv m σ=x:=by first|exact .inl rfl|exact .inr rfl|(simp only[List.map_cons,List.map_nil,List.length_set,TYS];first|exact .inl rfl|exact .inr rfl)|(refine Or.inl ?_;simp[Z6g,Q6w,Q1d,toPV,Q1i,sl,AObj.ren,renL,AV.ren,idx,List.range_succ,TYS];done)|(refine Or.inr ?_;simp[Z0k,Q6w,Q7q,Q7v,toPV,Q5k,Q1i,sl,AObj.ren,renL,AV.ren,idx,Z3n,Z4u,List.range_succ,TYS];done)):Z6g E rv m e σ=x∨Z0k E rv m σ=x:=h
theorem dk{P:Prop}(h:P:=by simp -implicitDefEqProofs only[RUNS,Q0s,Nat.reduceAdd,Nat.reduceLeDiff,Nat.reduceSub,reduceIte,Nat.reduceEqDiff,Nat.reduceLT,reduceCtorEq,Nat.reduceMul,Nat.reduceBEq,Int.reduceEq,Int.reduceToNat,Int.toNat_zero,Nat.sub_zero,if_true,if_false,eq_self,ne_eq,TYS]<;>(try simp only[List.length_take,List.length_drop,List.length_map])):P:=h
theorem dk1{Q P:Prop}(q:Q)(h:Q→P:=by intro q;simp -implicitDefEqProofs only[RUNS,Q0s,Nat.reduceAdd,Nat.reduceLeDiff,Nat.reduceSub,reduceIte,Nat.reduceEqDiff,Nat.reduceLT,reduceCtorEq,Nat.reduceMul,Nat.reduceBEq,Int.reduceEq,Int.reduceToNat,Int.toNat_zero,Nat.sub_zero,if_true,if_false,eq_self,ne_eq,TYS,PU,Option.map_some,q]<;>(try simp only[List.length_take,List.length_drop,List.length_map])):P:=h q
theorem dv{P:Prop}(h:P:=by simp -implicitDefEqProofs only[RUNS,Q0s,Nat.reduceAdd,Nat.reduceLeDiff,Nat.reduceSub,reduceIte,Nat.reduceEqDiff,Nat.reduceLT,reduceCtorEq,Nat.reduceMul,Nat.reduceBEq,Int.reduceEq,Int.reduceToNat,Int.toNat_zero,Nat.sub_zero,if_true,if_false,eq_self,ne_eq,Q2n,gdec,List.getD_cons_zero,List.getD_cons_succ,List.contains_cons,List.contains_nil,Bool.false_eq_true,bq1,bq2,TYS]):P:=h
theorem dv1{Q P:Prop}(q:Q)(h:Q→P:=by intro q;simp -implicitDefEqProofs only[RUNS,Q0s,Nat.reduceAdd,Nat.reduceLeDiff,Nat.reduceSub,reduceIte,Nat.reduceEqDiff,Nat.reduceLT,reduceCtorEq,Nat.reduceMul,Nat.reduceBEq,Int.reduceEq,Int.reduceToNat,Int.toNat_zero,Nat.sub_zero,if_true,if_false,eq_self,ne_eq,Q2n,gdec,List.getD_cons_zero,List.getD_cons_succ,List.contains_cons,List.contains_nil,Bool.false_eq_true,bq1,bq2,TYS,PU,Option.map_some,q]):P:=h q
theorem di{P:Prop}(h:P:=by simp -implicitDefEqProofs only[RUNS,Q0s,Nat.reduceAdd,Nat.reduceLeDiff,Nat.reduceSub,reduceIte,Nat.reduceEqDiff,Nat.reduceLT,reduceCtorEq,Nat.reduceMul,Nat.reduceBEq,Int.reduceEq,Int.reduceToNat,Int.toNat_zero,Nat.sub_zero,if_true,if_false,eq_self,ne_eq,Q4f,Q3c,Q2i,TYS];exact⟨rfl,rfl⟩):P:=h
theorem di1{Q P:Prop}(q:Q)(h:Q→P:=by intro q;simp -implicitDefEqProofs only[RUNS,Q0s,Nat.reduceAdd,Nat.reduceLeDiff,Nat.reduceSub,reduceIte,Nat.reduceEqDiff,Nat.reduceLT,reduceCtorEq,Nat.reduceMul,Nat.reduceBEq,Int.reduceEq,Int.reduceToNat,Int.toNat_zero,Nat.sub_zero,if_true,if_false,eq_self,ne_eq,Q4f,Q3c,Q2i,TYS,PU,Option.map_some,q];exact⟨rfl,rfl⟩):P:=h q
theorem kp{P:Prop}(h:P:=by(repeat' first|exact trivial|refine⟨rfl,?_⟩|refine⟨(by simp only[List.length_set];rfl),?_⟩)):P:=h
theorem dh{P:Prop}(h:P:=by(((simp -implicitDefEqProofs only[RUNS,Q0s,Nat.reduceAdd,Nat.reduceLeDiff,Nat.reduceSub,reduceIte,Nat.reduceEqDiff,Nat.reduceLT,reduceCtorEq,Nat.reduceMul,Nat.reduceBEq,Int.reduceEq,Int.reduceToNat,Int.toNat_zero,Nat.sub_zero,if_true,if_false,eq_self,ne_eq,TYS]);repeat'(split<;>rename_i hb<;>(try simp only[HBS,ge_iff_le,gt_iff_lt]at hb)<;>(try simp only[hb,Int.toNat_natCast,Int.toNat_zero,Int.reduceToNat,Nat.sub_zero,List.drop_zero,List.length_map]at q)<;>simp -implicitDefEqProofs only[RUNS,Q0s,Nat.reduceAdd,Nat.reduceLeDiff,Nat.reduceSub,reduceIte,Nat.reduceEqDiff,Nat.reduceLT,reduceCtorEq,Nat.reduceMul,Nat.reduceBEq,Int.reduceEq,Int.reduceToNat,Int.toNat_zero,Nat.sub_zero,if_true,if_false,eq_self,ne_eq,TYS, *,decide_true,decide_false,Decidable.not_not,not_false_eq_true,not_true_eq_false]));all_goals(first|(simp only[Q1y];done)|(simp[*];done)|((try simp only[CLOS,beq_iff_eq,bne_iff_ne,ne_eq]at *)<;>omega)|(simp_all;done)|(simp_all<;>omega)))):P:=h
theorem dh1{Q P:Prop}(q:Q)(h:Q→P:=by(intro q;((simp -implicitDefEqProofs only[RUNS,Q0s,Nat.reduceAdd,Nat.reduceLeDiff,Nat.reduceSub,reduceIte,Nat.reduceEqDiff,Nat.reduceLT,reduceCtorEq,Nat.reduceMul,Nat.reduceBEq,Int.reduceEq,Int.reduceToNat,Int.toNat_zero,Nat.sub_zero,if_true,if_false,eq_self,ne_eq,TYS,PU,Option.map_some,q]);repeat'(split<;>rename_i hb<;>(try simp only[HBS,ge_iff_le,gt_iff_lt]at hb)<;>(try simp only[hb,Int.toNat_natCast,Int.toNat_zero,Int.reduceToNat,Nat.sub_zero,List.drop_zero,List.length_map]at q)<;>simp -implicitDefEqProofs only[RUNS,Q0s,Nat.reduceAdd,Nat.reduceLeDiff,Nat.reduceSub,reduceIte,Nat.reduceEqDiff,Nat.reduceLT,reduceCtorEq,Nat.reduceMul,Nat.reduceBEq,Int.reduceEq,Int.reduceToNat,Int.toNat_zero,Nat.sub_zero,if_true,if_false,eq_self,ne_eq,TYS,q, *,decide_true,decide_false,Decidable.not_not,not_false_eq_true,not_true_eq_false]));all_goals(first|(simp only[Q1y];done)|(simp[*];done)|((try simp only[CLOS,beq_iff_eq,bne_iff_ne,ne_eq]at *)<;>omega)|(simp_all;done)|(simp_all<;>omega)))):P:=h q
theorem dp{P:Prop}(h:P:=by simp -implicitDefEqProofs only[RUNS,Q0s,Nat.reduceAdd,Nat.reduceLeDiff,Nat.reduceSub,reduceIte,Nat.reduceEqDiff,Nat.reduceLT,reduceCtorEq,Nat.reduceMul,Nat.reduceBEq,Int.reduceEq,Int.reduceToNat,Int.toNat_zero,Nat.sub_zero,if_true,if_false,eq_self,ne_eq,Z1v,TYS];first|exact Q3k.panic rfl rfl rfl|exact Q3k.call rfl rfl (by simp -implicitDefEqProofs only[RUNS,Q0s,Nat.reduceAdd,Nat.reduceLeDiff,Nat.reduceSub,reduceIte,Nat.reduceEqDiff,Nat.reduceLT,reduceCtorEq,Nat.reduceMul,Nat.reduceBEq,Int.reduceEq,Int.reduceToNat,Int.toNat_zero,Nat.sub_zero,if_true,if_false,eq_self,ne_eq,TYS];first|done|rfl|exact⟨rfl,rfl⟩)):P:=h
theorem dp1{Q P:Prop}(q:Q)(h:Q→P:=by intro q;simp -implicitDefEqProofs only[RUNS,Q0s,Nat.reduceAdd,Nat.reduceLeDiff,Nat.reduceSub,reduceIte,Nat.reduceEqDiff,Nat.reduceLT,reduceCtorEq,Nat.reduceMul,Nat.reduceBEq,Int.reduceEq,Int.reduceToNat,Int.toNat_zero,Nat.sub_zero,if_true,if_false,eq_self,ne_eq,Z1v,TYS,PU,Option.map_some,q];first|exact Q3k.panic rfl rfl rfl|exact Q3k.call rfl rfl (by simp -implicitDefEqProofs only[RUNS,Q0s,Nat.reduceAdd,Nat.reduceLeDiff,Nat.reduceSub,reduceIte,Nat.reduceEqDiff,Nat.reduceLT,reduceCtorEq,Nat.reduceMul,Nat.reduceBEq,Int.reduceEq,Int.reduceToNat,Int.toNat_zero,Nat.sub_zero,if_true,if_false,eq_self,ne_eq,TYS,PU,Option.map_some,q];first|done|rfl|exact⟨rfl,rfl⟩)):P:=h q
theorem hq{P:Prop}(h:P:=by first|rfl|(simp only[List.take_succ_cons,List.take_zero,List.take_nil,List.map_set,List.length_set,List.map_cons,List.map_nil,TYS];done)):P:=h
theorem ap0{O:Orc}{pf:FuncId→Bool}(f:FuncId)(h:O.pf=pf){q:Prop}(e:q)(hb:pf f=false:=by rfl):O.pf f=false∧q:=⟨pft h f hb,e⟩
theorem ap1{O:Orc}{pf:FuncId→Bool}(f:FuncId)(h:O.pf=pf){q:Prop}(e:q)(hb:pf f=true:=by rfl):O.pf f=true∧q:=⟨pft h f hb,e⟩
theorem srg{E:Env}{O:Orc}{k:Nat}{Q:Exit→St→Prop}(hS:Q2g E O)(ks:List Nat){id n:Nat}{t:Nat→AV}{h:List AObj}{ops:Array Oper}{y:Code}{L:List (Nat×AV)}{h':List AObj}(hr:Q2v ks L h' (arun E O ops ops.toList ⟨t,n,h⟩))(hQ:AW E k y Q ⟨sl L,n,h'⟩):AW E k (.seq (.region id ops false) y) Q ⟨t,n,h⟩:=AW.seq (AW.rg hS ks hr hQ)
theorem orp{E:Env}{L:List Spec}(c:AllG E L):∃ (O:Orc) (X:XO),Q2g E O∧Q6r E X∧O.pf=pfn∧∀ (i f:Nat) {S:Spec},Q7b L i f=some S→Kn O X f S:=orcs (pf:=pfn) c
theorem gh{E:Env}{S:Spec}{fn:Func}{c:Code}(hf:E.P.funcs[S.f]?=some fn)(N:Nat)(h:∀ (x:S.α) (r:S.ρ),S.F x=some r→∀m,(S.A x).2.length=m→(decide ((S.A x).1.length≤N)=true∧AW E m c (retB E fn m [] (S.A x).2 (S.R x r)) ⟨sl (enum 0 (S.A x).1),N,(S.A x).2⟩))(hnm:(fn.name=="runtime.NumGoroutine")=false:=by rfl)(hb:fn.body=some c:=by rfl)(hN:fn.ntmps=N:=by rfl)(hd0:E.dfs=[]:=by rfl):Q0a E S:=GH hf hnm hb N hN [] hd0 h
theorem ghs{E:Env}{S:Spec}{x:S.α}{r:S.ρ}{m N:Nat}{fn:Func}{c:Code}{extra:List Nat}{args:List AV}{H:List AObj}{out:Out}(em:(S.A x).2.length=m){M:Nat}{L:List (Nat×AV)}(h:AW E M c (retB E fn M extra H out) ⟨sl L,N,H⟩)(e1:S.A x=(args,H):=by rfl)(e2:S.R x r=out:=by rfl)(eM:H.length=M:=by rfl)(hn:decide (args.length≤N)=true:=by rfl)(hL:enum 0 args=L:=by rfl):decide ((S.A x).1.length≤N)=true∧AW E m c (retB E fn m extra (S.A x).2 (S.R x r)) ⟨sl (enum 0 (S.A x).1),N,(S.A x).2⟩:=GHs e1 e2 em eM hn hL h
theorem wq{Q P:Prop}(q:Q)(h:Q→P:=by intro hb;simp only[hb,cond_true,cond_false,Q1y,Bool.not_true,Bool.not_false]<;>rfl):P:=h q
def NRM:=And.intro @Int.toNat_natCast (And.intro @Int.toNat_zero (And.intro @Nat.sub_zero (And.intro (@List.drop_zero:∀ {α:Type} {l:List α},List.drop 0 l=l) (@List.length_map:∀ {α β:Type} {l:List α} (f:α→β),(l.map f).length=l.length))))
def LNS:=And.intro (@List.length_cons:∀ {α:Type} {a:α} {l:List α},(a::l).length=l.length+1) (And.intro (@List.length_nil:∀ {α:Type},([]:List α).length=0) @Nat.zero_add)
theorem PVM:(∀ {α β:Type} (f:α→β) (a:α) (l:List α),List.map f (a::l)=f a::List.map f l)∧(∀ {α β:Type} (f:α→β),List.map f []=[]):=⟨fun _ _ _=>rfl,fun _=>rfl⟩
def PVE:=And.intro @PVM.1 (And.intro @PVM.2 (And.intro @J1o (And.intro @Word.pv_eq (And.intro @J1n (And.intro @Redir.pv_eq (And.intro @J1m (And.intro @Cmd.pv_eq (And.intro @Token.pv_eq @Shape.pv_eq))))))))
def gS:List Spec→Nat→Spec
 | S::_,0=>S
 | _::t,n+1=>gS t n
 | [],_=>⟨0,Unit,Unit,fun _=>none,fun _=>([],[]),fun _ _=>.ret [] [],fun _ _ _=>rfl⟩
theorem hd{E:Env}{L:List Spec}{S:Spec}{fn:Func}{c:Code}(g:AllG E L)(hf:E.P.funcs[S.f]?=some fn)(N:Nat)(h:∀ (O:Orc) (X:XO),Q2g E O→Q6r E X→O.pf=pfn→(∀ (i f:Nat) {S:Spec},Q7b L i f=some S→Kn O X f S)→∀ (x:S.α) (r:S.ρ),S.F x=some r→(decide ((S.A x).1.length≤N)=true∧AW E (S.A x).2.length c (retB E fn (S.A x).2.length [] (S.A x).2 (S.R x r)) ⟨sl (enum 0 (S.A x).1),N,(S.A x).2⟩))(hnm:(fn.name=="runtime.NumGoroutine")=false:=by rfl)(hb:fn.body=some c:=by rfl)(hN:fn.ntmps=N:=by rfl)(hd0:E.dfs=[]:=by rfl):Q0a E S:=by
 obtain⟨O,X,hS,hX,hpf,hk⟩:=orp g
 refine GH hf hnm hb N hN [] hd0 fun x r hr m em=>?_
 subst em
 exact h O X hS hX hpf hk x r hr
theorem gs{E:Env}{S:Spec}{x:S.α}{r:S.ρ}{N:Nat}{fn:Func}{c:Code}{args:List AV}{H:List AObj}{out:Out}{M:Nat}{L:List (Nat×AV)}(h:AW E M c (retB E fn M [] H out) ⟨sl L,N,H⟩)(e1:S.A x=(args,H):=by rfl)(e2:S.R x r=out:=by rfl)(eM:H.length=M:=by rfl)(hn:decide (args.length≤N)=true:=by rfl)(hL:enum 0 args=L:=by rfl):decide ((S.A x).1.length≤N)=true∧AW E (S.A x).2.length c (retB E fn (S.A x).2.length [] (S.A x).2 (S.R x r)) ⟨sl (enum 0 (S.A x).1),N,(S.A x).2⟩:=GHs e1 e2 rfl eM hn hL h
section
variable {E:Env}{O:Orc}{X:XO}{k:Nat}{Q:Exit→St→Prop}{id n:Nat}{t:Nat→AV}{H:List AObj}{ops:Array Oper}{y:Code}
theorem R(ks:List Nat){L:List (Nat×AV)}{H':List AObj}(hQ:AW E k y Q ⟨sl L,n,H'⟩)(hS:Q2g E O:=by exact hS)(hr:Q2v ks L H' (arun E O ops ops.toList ⟨t,n,H⟩):=by exact di):AW E k (.seq (.region id ops false) y) Q ⟨t,n,H⟩:=AW.seq (AW.rg hS ks hr hQ)
theorem G(ks:List Nat){L:List (Nat×AV)}{H':List AObj}(hQ:Q .normal ⟨sl L,n,H'⟩)(hS:Q2g E O:=by exact hS)(hr:Q2v ks L H' (arun E O ops ops.toList ⟨t,n,H⟩):=by exact di):AW E k (.region id ops false) Q ⟨t,n,H⟩:=AW.rg hS ks hr hQ
theorem Rf{ρ:Type}{a r:ρ}{σ:St}(h:some a=some r)(hq:some a=some r→Q .ret σ:=by intro h;cases h;exact fin):AW E k .ret Q σ:=AW.ret (hq h)
theorem Rt{ρ:Type}{a r:ρ}(h:some a=some r)(ks:List Nat){L:List (Nat×AV)}{H':List AObj}(hS:Q2g E O:=by exact hS)(hr:Q2v ks L H' (arun E O ops ops.toList ⟨t,n,H⟩):=by exact di)(hq:some a=some r→Q .ret ⟨sl L,n,H'⟩:=by intro h;cases h;exact fin):AW E k (.seq (.region id ops false) .ret) Q ⟨t,n,H⟩:=AW.seq (AW.rg hS ks hr (AW.ret (hq h)))
theorem Z{L:List Spec}(hk:∀ (i f:Nat) {S:Spec},Q7b L i f=some S→Kn O X f S)(i f:Nat)(x:(gS L i).α)(hpf:O.pf=pfn:=by exact hpf)(hb:pfn f=false:=by rfl)(hi:Q7b L i f=some (gS L i):=by rfl):∀a,(gS L i).F x=some a→O.pf f=false∧(∀args H rs H',(gS L i).A x=(args,H)→(gS L i).R x a=.ret rs H'→O.C f args H=some (rs,H'))∧∀args H v,(gS L i).A x=(args,H)→(gS L i).R x a=.boom v→X f args H=some v:=
 fun _ q=>⟨pft hpf f hb,fun _ _ _ _ e1 e2=>(hk i f hi).ret x q e1 e2,fun _ _ _ e1 e2=>(hk i f hi).boom x q e1 e2⟩
theorem Zt{L:List Spec}(hk:∀ (i f:Nat) {S:Spec},Q7b L i f=some S→Kn O X f S)(i f:Nat)(x:(gS L i).α)(hpf:O.pf=pfn:=by exact hpf)(hb:pfn f=true:=by rfl)(hi:Q7b L i f=some (gS L i):=by rfl):∀a,(gS L i).F x=some a→O.pf f=true∧(∀args H rs H',(gS L i).A x=(args,H)→(gS L i).R x a=.ret rs H'→O.C f args H=some (rs,H'))∧∀args H v,(gS L i).A x=(args,H)→(gS L i).R x a=.boom v→X f args H=some v:=
 fun _ q=>⟨pft hpf f hb,fun _ _ _ _ e1 e2=>(hk i f hi).ret x q e1 e2,fun _ _ _ e1 e2=>(hk i f hi).boom x q e1 e2⟩
theorem Ua1{ρ β:Type}{F:Option (ρ)}{g:ρ→Option β}{r:β}(h:F.bind g=some r)(ks:List Nat){P:ρ→Prop}(z:∀a,F=some a→P a){L:ρ→List (Nat×AV)}{H':ρ→List AObj}(hQ:∀a,g a=some r→Q .normal ⟨sl (L a),n,H' a⟩)(hS:Q2g E O:=by exact hS)(hr:∀a,P a→Q2v ks (L a) (H' a) (arun E O ops ops.toList ⟨t,n,H⟩):=by intro a p;obtain⟨p,q,-⟩:=p;replace q:=q _ _ _ _ rfl rfl;(try simp only[PVE]at q);(first|replace q:=an q (ec1 q rfl rfl rfl)|replace q:=an q (ec3 q rfl rfl rfl rfl rfl rfl rfl)|replace q:=an q (ecp q rfl)|skip);exact di1 (an p q)):AW E k (.region id ops false) Q ⟨t,n,H⟩:=by
 obtain⟨a,e,h⟩:=obs h
 exact AW.rg hS ks (hr a (z _ e)) (hQ a h)
theorem Ua2{ρ ρ₂ β:Type}{F:Option (ρ×ρ₂)}{g:ρ×ρ₂→Option β}{r:β}(h:F.bind g=some r)(ks:List Nat){P:ρ×ρ₂→Prop}(z:∀a,F=some a→P a){L:ρ→ρ₂→List (Nat×AV)}{H':ρ→ρ₂→List AObj}(hQ:∀a b,g (a,b)=some r→Q .normal ⟨sl (L a b),n,H' a b⟩)(hS:Q2g E O:=by exact hS)(hr:∀a b,P (a,b)→Q2v ks (L a b) (H' a b) (arun E O ops ops.toList ⟨t,n,H⟩):=by intro a b p;obtain⟨p,q,-⟩:=p;replace q:=q _ _ _ _ rfl rfl;(try simp only[PVE]at q);(first|replace q:=an q (ec1 q rfl rfl rfl)|replace q:=an q (ec3 q rfl rfl rfl rfl rfl rfl rfl)|replace q:=an q (ecp q rfl)|skip);exact di1 (an p q)):AW E k (.region id ops false) Q ⟨t,n,H⟩:=by
 obtain⟨⟨a,b⟩,e,h⟩:=obs h
 exact AW.rg hS ks (hr a b (z _ e)) (hQ a b h)
theorem Ua3{ρ ρ₂ ρ₃ β:Type}{F:Option (ρ×ρ₂×ρ₃)}{g:ρ×ρ₂×ρ₃→Option β}{r:β}(h:F.bind g=some r)(ks:List Nat){P:(ρ×ρ₂×ρ₃)→Prop}(z:∀a,F=some a→P a){L:ρ→ρ₂→ρ₃→List (Nat×AV)}{H':ρ→ρ₂→ρ₃→List AObj}(hQ:∀a b c,g (a,b,c)=some r→Q .normal ⟨sl (L a b c),n,H' a b c⟩)(hS:Q2g E O:=by exact hS)(hr:∀a b c,P (a,b,c)→Q2v ks (L a b c) (H' a b c) (arun E O ops ops.toList ⟨t,n,H⟩):=by intro a b c p;obtain⟨p,q,-⟩:=p;replace q:=q _ _ _ _ rfl rfl;(try simp only[PVE]at q);(first|replace q:=an q (ec1 q rfl rfl rfl)|replace q:=an q (ec3 q rfl rfl rfl rfl rfl rfl rfl)|replace q:=an q (ecp q rfl)|skip);exact di1 (an p q)):AW E k (.region id ops false) Q ⟨t,n,H⟩:=by
 obtain⟨⟨a,b,c⟩,e,h⟩:=obs h
 exact AW.rg hS ks (hr a b c (z _ e)) (hQ a b c h)
def BM(_:Nat)(P:Prop):Prop:=P
theorem regB(hS:Q2g E O)(hX:Q6r E X){i:Nat}{o:Oper}{post:List Oper}{v:Value}{H':List AObj}(hops:ops.toList.drop i=o::post)
 (hr:J3o X o v H' (arun E O ops (ops.toList.take i) ⟨t,n,H⟩)) (hQ:Q (.panic [{ v:=v,recovered:=false }]) ⟨fun _=>.any,n,H'⟩):BM i (AW E k (.region id ops false) Q ⟨t,n,H⟩):=AW.regS hS hX i hops hr hQ
theorem Xa1{ρ β:Type}{F:Option (Int ⊕ (ρ))}{g:ρ→Option (Int ⊕ β)}{r:Int ⊕ β}(h:Q0o F g=some r)(ks:List Nat){P:Int ⊕ (ρ)→Prop}(z:∀a,F=some a→P a)(i:Nat){L:ρ→List (Nat×AV)}{H':ρ→List AObj}(hQ:∀a,g a=some r→Q .normal ⟨sl (L a),n,H' a⟩)(hS:Q2g E O:=by exact hS)(hr:∀a,P (.inr a)→Q2v ks (L a) (H' a) (arun E O ops ops.toList ⟨t,n,H⟩):=by intro a p;obtain⟨p,q,-⟩:=p;replace q:=q _ _ _ _ rfl rfl;(try simp only[PVE]at q);(first|replace q:=an q (ec1 q rfl rfl rfl)|replace q:=an q (ec3 q rfl rfl rfl rfl rfl rfl rfl)|replace q:=an q (ecp q rfl)|skip);exact di1 (an p q))(hb:∀m,P (.inl m)→r=.inl m→BM i (AW E k (.region id ops false) Q ⟨t,n,H⟩):=by intro m p e;subst e;obtain⟨-,-,q⟩:=p;replace q:=q _ _ _ rfl rfl;(try simp only[PVE]at q);replace q:=Q4y q rfl rfl;apply regB hS hX rfl;(· exact dp1 q);exact Q7y rfl rfl rfl):AW E k (.region id ops false) Q ⟨t,n,H⟩:=by
 rcases Q1m h with⟨m,q,e⟩|⟨a,q,h⟩
 ·exact hb m (z _ q) e
 exact AW.rg hS ks (hr a (z _ q)) (hQ a h)
theorem Xa2{ρ ρ₂ β:Type}{F:Option (Int ⊕ (ρ×ρ₂))}{g:ρ×ρ₂→Option (Int ⊕ β)}{r:Int ⊕ β}(h:Q0o F g=some r)(ks:List Nat){P:Int ⊕ (ρ×ρ₂)→Prop}(z:∀a,F=some a→P a)(i:Nat){L:ρ→ρ₂→List (Nat×AV)}{H':ρ→ρ₂→List AObj}(hQ:∀a b,g (a,b)=some r→Q .normal ⟨sl (L a b),n,H' a b⟩)(hS:Q2g E O:=by exact hS)(hr:∀a b,P (.inr (a,b))→Q2v ks (L a b) (H' a b) (arun E O ops ops.toList ⟨t,n,H⟩):=by intro a b p;obtain⟨p,q,-⟩:=p;replace q:=q _ _ _ _ rfl rfl;(try simp only[PVE]at q);(first|replace q:=an q (ec1 q rfl rfl rfl)|replace q:=an q (ec3 q rfl rfl rfl rfl rfl rfl rfl)|replace q:=an q (ecp q rfl)|skip);exact di1 (an p q))(hb:∀m,P (.inl m)→r=.inl m→BM i (AW E k (.region id ops false) Q ⟨t,n,H⟩):=by intro m p e;subst e;obtain⟨-,-,q⟩:=p;replace q:=q _ _ _ rfl rfl;(try simp only[PVE]at q);replace q:=Q4y q rfl rfl;apply regB hS hX rfl;(· exact dp1 q);exact Q7y rfl rfl rfl):AW E k (.region id ops false) Q ⟨t,n,H⟩:=by
 rcases Q1m h with⟨m,q,e⟩|⟨⟨a,b⟩,q,h⟩
 ·exact hb m (z _ q) e
 exact AW.rg hS ks (hr a b (z _ q)) (hQ a b h)
theorem xb{α β:Type}{F:Option (Int ⊕ α)}{g:α→Option (Int ⊕ β)}{r:Int ⊕ β}(h:Q0o F g=some r){P:Int ⊕ α→Prop}(z:∀a,F=some a→P a)(i:Nat)(hQ:∀a,P (.inr a)→g a=some r→AW E k (.region id ops false) Q ⟨t,n,H⟩)(hS:Q2g E O:=by exact hS)(hX:Q6r E X:=by exact hX)(hb:∀m,P (.inl m)→r=.inl m→BM i (AW E k (.region id ops false) Q ⟨t,n,H⟩):=by intro m p e;subst e;obtain⟨-,-,q⟩:=p;replace q:=q _ _ _ rfl rfl;(try simp only[PVE]at q);replace q:=Q4y q rfl rfl;apply regB hS hX rfl;(· exact dp1 q);exact Q7y rfl rfl rfl):AW E k (.region id ops false) Q ⟨t,n,H⟩:=by
 rcases Q1m h with⟨m,q,e⟩|⟨a,q,h⟩
 ·exact hb m (z _ q) e
 exact hQ a (z _ q) h
theorem oc{α β:Type}{o:Option α}{g:α→Option β}{b:β}{P:α→Prop}(h:o.bind g=some b)(k:∀a,o=some a→P a):∃a,P a∧g a=some b:=by
 obtain⟨a,e,h⟩:=obs h
 exact⟨a,k a e,h⟩
section
variable {f:Nat}{b:Bool}{α:List AV×List AObj}{ω:Out}{Y:Prop}{rs:List AV}{kk:Nat}{az:List AV}
theorem ca(p:O.pf f=b∧(∀args H rs H',α=(args,H)→ω=.ret rs H'→O.C f args H=some (rs,H'))∧Y){H':List AObj}(e1:α=(az,H):=by rfl)(e2:ω=.ret rs H':=by rfl):O.pf f=b∧O.C f az H=some (rs,H'):=⟨p.1,p.2.1 _ _ _ _ e1 e2⟩
theorem cb(p:O.pf f=b∧(∀args H rs H',α=(args,H)→ω=.ret rs H'→O.C f args H=some (rs,H'))∧Y){o o':AObj}(e1:α=(.ref 0 kk::az,[o]):=by rfl)(e2:ω=.ret rs [o']:=by rfl)(h1:obj1 o=true:=by rfl)(h2:Q7x rs=true:=by rfl)(h3:obj1 o'=true:=by rfl):O.pf f=b∧∀rest args,Q4e args=some az→Q1q O (o::rest) f (.ref 0 kk::args)=some (Q1z rs,o'::rest):=⟨p.1,ec1 (p.2.1 _ _ _ _ e1 e2) h1 h2 h3⟩
theorem cc(p:O.pf f=b∧(∀args H rs H',α=(args,H)→ω=.ret rs H'→O.C f args H=some (rs,H'))∧Y)(e1:α=(az,[]):=by rfl)(e2:ω=.ret rs []:=by rfl)(h2:Q7x rs=true:=by rfl):O.pf f=b∧∀H args,Q4e args=some az→Q1q O H f args=some (Q1z rs,H):=⟨p.1,ecp (p.2.1 _ _ _ _ e1 e2) h2⟩
theorem cd(p:O.pf f=b∧(∀args H rs H',α=(args,H)→ω=.ret rs H'→O.C f args H=some (rs,H'))∧Y){cs cs':List AV}{u v u' v':AObj}(e1:α=(.ref 0 kk::az,[.var cs,u,v]):=by rfl)(e2:ω=.ret rs [.var cs',u',v']:=by rfl)(h1:(in12 cs&&decide (Q4h cs=[1,2]))=true:=by rfl)(h2:obj1 u=true:=by rfl)(h3:obj1 v=true:=by rfl)(h4:Q7x rs=true:=by rfl)(h5:in12 cs'=true:=by rfl)(h6:obj1 u'=true:=by rfl)(h7:obj1 v'=true:=by rfl):O.pf f=b∧∀rest args,Q4e args=some az→Q1q O (.var cs::u::v::rest) f (.ref 0 kk::args)=some (Q1z rs,.var cs'::u'::v'::rest):=⟨p.1,ec3 (p.2.1 _ _ _ _ e1 e2) h1 h2 h3 h4 h5 h6 h7⟩
end
section
variable {β ρ:Type}{f:(β→Option ρ)→β→Option ρ}{r:ρ}{c:Code}{σ:St}
def NX(E:Env)(k:Nat)(f:(β→Option ρ)→β→Option ρ)(r:ρ)(I:β→St)(m:Nat)(σ:St):Prop:=∃b m',iter f m' b=some r∧Weak E k σ (I b)∧m'≤m
def NY(E:Env)(k:Nat)(f:(β→Option ρ)→β→Option ρ)(r:ρ)(I:β→St)(σ:St):Prop:=∃b m',iter f m' b=some r∧Weak E k σ (I b)
theorem lpr{Q:Exit→St→Prop}(I:β→St)(hr:∀b m,f (iter f m) b=some r→AW E k c (Q9b (NX E k f r I m) Q) (I b))(x:Nat×β)(p:iter f x.1 x.2=some r):AW E k c (Q9b (fun σ'=>∃a':Nat×β,iter f a'.1 a'.2=some r∧Weak E k σ' (I a'.2)∧a'.1<x.1) Q) (I x.2):=by
 obtain⟨m,hm,h⟩:=X0v p
 intro γ₀ H₀ Φ₀ w₀ a w hl hR
 refine wp_mono (hr x.2 m h γ₀ H₀ Φ₀ w₀ a w hl hR) fun e a' w' ⟨σ',hR',hQ⟩=>⟨σ',hR',?_⟩
 cases e with
 | normal=>
   obtain⟨b,m',h1,h2,h3⟩:=hQ
   exact⟨(m',b),h1,h2,by rw[hm];exact Nat.lt_succ_of_le h3⟩
 | _=>exact hQ
theorem Lp{N:Nat}{a:β}(h:iter f N a=some r)(I:β→St)(hr:∀b m,f (iter f m) b=some r→AW E k c (Q9b (NX E k f r I m) Q) (I b))(hw:Weak E k σ (I a):=by exact Weak.slots kp):AW E k (.loop c) Q σ:=
 AW.lp (fun x:Nat×β=>I x.2) (fun x=>iter f x.1 x.2=some r) (fun x=>x.1) (N,a) hw h (lpr I hr)
theorem Lq(r:ρ)(f:(β→Option ρ)→β→Option ρ)(I:β→St)(h1:AW E k c (Q9b (NY E k f r I) Q) σ)(hr:∀b m,f (iter f m) b=some r→AW E k c (Q9b (NX E k f r I m) Q) (I b)):AW E k (.loop c) Q σ:=by
 refine AW.lp1 (fun x:Nat×β=>I x.2) (fun x=>iter f x.1 x.2=some r) (fun x=>x.1) (fun γ₀ H₀ Φ₀ w₀ a w hl hR=>?_) (lpr I hr)
 refine wp_mono (h1 γ₀ H₀ Φ₀ w₀ a w hl hR) fun e a' w' ⟨σ',hR',hQ⟩=>⟨σ',hR',?_⟩
 cases e with
 | normal=>
   obtain⟨b,m',h1,h2⟩:=hQ
   exact⟨(m',b),h1,h2⟩
 | _=>exact hQ
theorem Wn{m:Nat}{t:Nat→AV}{L:List (Nat×AV)}{H H':List AObj}(e:H'.length=m)(hk:k≤m)(hL:Q9m t L)(hH:H.take m=H')(ho:H'.all (AObj.ltB m)=true)(hl:(L.all fun p=>p.2.ltB m)=true):Weak E k ⟨t,n,H⟩ ⟨sl L,n,H'⟩:=Weak.norm hk hL hH ho hl
theorem hq₂{P:Prop}(h:P:=by first|rfl|(simp only[List.length_cons,List.length_nil,Nat.zero_add,Nat.reduceAdd,List.take_succ_cons,List.take_zero,List.take_nil,List.map_set,List.length_set,List.map_cons,List.map_nil,TYS];done)):P:=h
theorem nx{I:β→St}{m m':Nat}{b:β}(h:iter f m' b=some r)(hw:Weak E k σ (I b):=by first|exact Weak.slots kp|exact Wn rfl (Nat.le_of_ble_eq_true rfl) kp hq₂ rfl rfl)(hm:m'≤m:=by exact Nat.le_refl _):NX E k f r I m σ:=⟨b,m',h,hw,hm⟩
theorem ny{I:β→St}{m':Nat}{b:β}(h:iter f m' b=some r)(hw:Weak E k σ (I b):=by first|exact Weak.slots kp|exact Wn rfl (Nat.le_of_ble_eq_true rfl) kp hq₂ rfl rfl):NY E k f r I σ:=⟨b,m',h,hw⟩
end
theorem iz{α:Type}{r:α}{b b':Bool}{u v:Option α}(h:(bif b then u else v)=some r){c:Operand}{x y:Code}{σ:St}(ht:u=some r→AW E k x Q σ)(hf:v=some r→AW E k y Q σ)(hc:ev σ.t c=.pv (.bool b'):=by rfl)(hb:b'=b:=by rfl):AW E k (.cond c x y) Q σ:=AW.iff_ h hc hb (fun _=>ht) (fun _=>hf)
theorem ik{α:Type}{r:α}{b b':Bool}{u v:Option α}(h:(bif b then u else v)=some r){c:Operand}{x:Code}{σ:St}(ht:u=some r→AW E k x Q σ)(hf:v=some r→Q .normal σ)(hc:ev σ.t c=.pv (.bool b'):=by rfl)(hb:b'=b:=by rfl):AW E k (.cond c x .skip) Q σ:=AW.iff_ h hc hb (fun _=>ht) fun _ q=>AW.skip (hf q)
theorem ex{ρ:Type}{a r:ρ}{i:Nat}{σ:St}(h:some a=some r)(hq:some a=some r→Q (.exit i) σ:=by intro h;cases h;exact fin):AW E k (.exit i) Q σ:=AW.exit (hq h)
end
end Go.Abs.U48
