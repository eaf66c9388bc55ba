import Derived.Test.YtljahlbklgnfhaaGreatDoorA39
import Derived.Test.YtljahlbklgnfhaaGreatDoorA41
import Derived.Test.YtljahlbklgnfhaaGreatDoorA45
import Derived.Test.YtljahlbklgnfhaaGreatDoorA54
import Derived.Test.YtljahlbklgnfhaaGreatDoorA59
import Derived.Test.YtljahlbklgnfhaaGreatDoorA63
import Derived.Lib.ItoaNum
import Derived.Test.YtljahlbklgnfhaaGreatDoorProg
set_option linter.unusedVariables false
set_option linter.unusedSimpArgs false
set_option linter.defProp false
namespace Go.Abs.U48
open Go.RowKit Go.Proofs
abbrev Str:=List UInt8
def tab:List (Nat×TI):=[
 (2,⟨.int .i64,1,8,some [.int .i64 0]⟩),
 (3,⟨.int .i64,1,8,some [.int .i64 0]⟩),
 (4,⟨.bool,1,1,some [.bool false]⟩),
 (5,⟨.int .u8,1,1,some [.int .u8 0]⟩),
 (6,⟨.int .u8,1,1,some [.int .u8 0]⟩),
 (7,⟨.strct [(0,1),(1,1),(2,1),(3,1)],4,24,some [.int .i64 0,.int .i64 0,.bool false,.int .u8 0]⟩),
 (8,⟨.strct [(0,1),(1,1),(2,1),(3,1)],4,24,some [.int .i64 0,.int .i64 0,.bool false,.int .u8 0]⟩),
 (9,⟨.str,1,16,some [.str []]⟩),
 (10,⟨.str,1,16,some [.str []]⟩),
 (11,⟨.str,1,16,some [.str []]⟩),
 (12,⟨.int .u64,1,8,some [.int .u64 0]⟩),
 (13,⟨.strct [(0,1),(1,1)],2,24,some [.str [],.int .u64 0]⟩),
 (14,⟨.strct [(0,1),(1,1)],2,24,some [.str [],.int .u64 0]⟩),
 (15,⟨.ptr 228,1,8,some [.nilp]⟩),
 (16,⟨.ptr 231,1,8,some [.nilp]⟩),
 (17,⟨.ptr 238,1,8,some [.nilp]⟩),
 (18,⟨.strct [(0,1)],1,8,some [.nilp]⟩),
 (19,⟨.strct [(0,1)],1,8,some [.nilp]⟩),
 (20,⟨.iface,1,16,some [.nil]⟩),
 (21,⟨.int .i32,1,4,some [.int .i32 0]⟩),
 (23,⟨.slice 36,1,24,some [.slice []]⟩),
 (24,⟨.int .i64,1,8,some [.int .i64 0]⟩),
 (33,⟨.slice 49,1,24,some [.slice []]⟩),
 (34,⟨.slice 51,1,24,some [.slice []]⟩),
 (35,⟨.strct [(0,1),(1,1),(2,1),(3,1),(4,1),(5,1)],6,104,some [.int .i64 0,.int .i64 0,.str [],.slice [],.slice [],.slice []]⟩),
 (36,⟨.strct [(0,1),(1,1),(2,1),(3,1),(4,1),(5,1)],6,104,some [.int .i64 0,.int .i64 0,.str [],.slice [],.slice [],.slice []]⟩),
 (37,⟨.slice 87,1,24,some [.slice []]⟩),
 (41,⟨.ptr 45,1,8,some [.nilp]⟩),
 (42,⟨.slice 9,1,24,some [.slice []]⟩),
 (44,⟨.strct [(0,1),(1,1),(2,1),(3,1),(4,1),(5,1)],6,88,some [.str [],.slice [],.slice [],.int .i64 0,.int .i64 0,.int .i64 0]⟩),
 (45,⟨.strct [(0,1),(1,1),(2,1),(3,1),(4,1),(5,1)],6,88,some [.str [],.slice [],.slice [],.int .i64 0,.int .i64 0,.int .i64 0]⟩),
 (48,⟨.strct [(0,1),(1,1),(2,1),(3,1),(4,1)],5,88,some [.int .i64 0,.str [],.str [],.slice [],.slice []]⟩),
 (49,⟨.strct [(0,1),(1,1),(2,1),(3,1),(4,1)],5,88,some [.int .i64 0,.str [],.str [],.slice [],.slice []]⟩),
 (50,⟨.strct [(0,1),(1,1),(2,1),(3,5),(8,1)],9,120,some [.int .i64 0,.int .i64 0,.int .i64 0,.int .i64 0,.str [],.str [],.slice [],.slice [],.bool false]⟩),
 (51,⟨.strct [(0,1),(1,1),(2,1),(3,5),(8,1)],9,120,some [.int .i64 0,.int .i64 0,.int .i64 0,.int .i64 0,.str [],.str [],.slice [],.slice [],.bool false]⟩),
 (57,⟨.ptr 60,1,8,some [.nilp]⟩),
 (58,⟨.slice 5,1,24,some [.slice []]⟩),
 (59,⟨.strct [(0,1),(1,1)],2,32,some [.nilp,.slice []]⟩),
 (60,⟨.strct [(0,1),(1,1)],2,32,some [.nilp,.slice []]⟩),
 (61,⟨.strct [(0,2),(2,1)],3,56,some [.nilp,.slice [],.slice []]⟩),
 (62,⟨.strct [(0,2),(2,1)],3,56,some [.nilp,.slice [],.slice []]⟩),
 (65,⟨.ptr 67,1,8,some [.nilp]⟩),
 (66,⟨.strct [(0,1),(1,1)],2,32,some [.str [],.str []]⟩),
 (67,⟨.strct [(0,1),(1,1)],2,32,some [.str [],.str []]⟩),
 (68,⟨.ptr 70,1,8,some [.nilp]⟩),
 (69,⟨.strct [(0,1),(1,1),(2,1),(3,1),(4,1),(5,1),(6,1)],7,96,some [.str [],.int .i64 0,.slice [],.slice [],.int .i64 0,.int .i64 0,.int .i64 0]⟩),
 (70,⟨.strct [(0,1),(1,1),(2,1),(3,1),(4,1),(5,1),(6,1)],7,96,some [.str [],.int .i64 0,.slice [],.slice [],.int .i64 0,.int .i64 0,.int .i64 0]⟩),
 (73,⟨.int .i64,1,8,some [.int .i64 0]⟩),
 (75,⟨.ptr 77,1,8,some [.nilp]⟩),
 (76,⟨.strct [(0,1),(1,1),(2,1),(3,1)],4,72,some [.str [],.slice [],.slice [],.int .i64 0]⟩),
 (77,⟨.strct [(0,1),(1,1),(2,1),(3,1)],4,72,some [.str [],.slice [],.slice [],.int .i64 0]⟩),
 (82,⟨.strct [(0,1),(1,1),(2,1),(3,1),(4,1),(5,1),(6,1)],7,88,some [.int .i64 0,.slice [],.int .i64 0,.bool false,.slice [],.int .i64 0,.int .i64 0]⟩),
 (83,⟨.strct [(0,1),(1,1),(2,1),(3,1),(4,1),(5,1),(6,1)],7,88,some [.int .i64 0,.slice [],.int .i64 0,.bool false,.slice [],.int .i64 0,.int .i64 0]⟩),
 (86,⟨.strct [(0,1),(1,1),(2,1),(3,1)],4,48,some [.int .i64 0,.int .i64 0,.str [],.str []]⟩),
 (87,⟨.strct [(0,1),(1,1),(2,1),(3,1)],4,48,some [.int .i64 0,.int .i64 0,.str [],.str []]⟩),
 (94,⟨.ptr 62,1,8,some [.nilp]⟩),
 (96,⟨.ptr 5,1,8,some [.nilp]⟩),
 (104,⟨.slice 3,1,24,some [.slice []]⟩),
 (113,⟨.strct [(0,1),(1,1),(2,1),(3,1)],4,48,some [.str [],.str [],.int .i64 0,.bool false]⟩),
 (114,⟨.strct [(0,1),(1,1),(2,1),(3,1)],4,48,some [.str [],.str [],.int .i64 0,.bool false]⟩),
 (117,⟨.strct [(0,1),(1,1),(2,1)],3,3,some [.bool false,.bool false,.bool false]⟩),
 (118,⟨.strct [(0,1),(1,1),(2,1)],3,3,some [.bool false,.bool false,.bool false]⟩),
 (132,⟨.iface,1,16,some [.nil]⟩),
 (133,⟨.iface,1,16,some [.nil]⟩),
 (152,⟨.int .u64,1,8,some [.int .u64 0]⟩),
 (166,⟨.int .u32,1,4,some [.int .u32 0]⟩),
 (169,⟨.int .u64,1,8,some [.int .u64 0]⟩),
 (190,⟨.int .i64,1,8,some [.int .i64 0]⟩),
 (193,⟨.ptr 208,1,8,some [.nilp]⟩),
 (207,⟨.strct [(0,1),(1,1),(2,1)],3,48,some [.str [],.str [],.nil]⟩),
 (208,⟨.strct [(0,1),(1,1),(2,1)],3,48,some [.str [],.str [],.nil]⟩),
 (217,⟨.strct [(0,1),(1,1)],2,2,some [.int .u8 0,.int .u8 0]⟩),
 (218,⟨.strct [(0,1),(1,1)],2,2,some [.int .u8 0,.int .u8 0]⟩),
 (221,⟨.ptr 223,1,8,some [.nilp]⟩),
 (222,⟨.strct [(0,1)],1,16,some [.str []]⟩),
 (223,⟨.strct [(0,1)],1,16,some [.str []]⟩),
 (227,⟨.strct [(0,1),(1,1),(2,1),(3,1)],4,40,some [.nilp,.nilp,.nilp,.str []]⟩),
 (228,⟨.strct [(0,1),(1,1),(2,1),(3,1)],4,40,some [.nilp,.nilp,.nilp,.str []]⟩),
 (230,⟨.strct [(0,0)],0,0,some []⟩),
 (231,⟨.strct [(0,0)],0,0,some []⟩),
 (232,⟨.int .u8,1,1,some [.int .u8 0]⟩),
 (233,⟨.int .u8,1,1,some [.int .u8 0]⟩),
 (235,⟨.int .i32,1,4,some [.int .i32 0]⟩),
 (236,⟨.int .i32,1,4,some [.int .i32 0]⟩),
 (237,⟨.strct [(0,1),(1,1),(2,1),(3,1),(4,1),(5,1),(6,1),(7,1),(8,1),(9,1),(10,1)],11,48,none⟩),
 (238,⟨.strct [(0,1),(1,1),(2,1),(3,1),(4,1),(5,1),(6,1),(7,1),(8,1),(9,1),(10,1)],11,48,none⟩)]
def V1i:List (TypeId×List EK):=[]
theorem X4n:V1i.all (fun p=>Z8k Tryz.prog p.1 p.2)=true:=by kernel_rfl
theorem K1m:tab.all (fun p=>J3p Tryz.prog p.1 p.2)=true:=by kernel_rfl
noncomputable def env:Env where
 P:=Tryz.prog
 T:=tabT tab
 hT:=fun t ti h=>J5w K1m t ti h
 gN:=4
 GI:=fun w=>(∃m,w.cell? ⟨0,0,none⟩=some (.int .i64 m))∧(∃ev,w.cell? ⟨1,0,none⟩=some ev∧(ev=.nilIface∨∃te pe,ev=.iface te pe))∧(∃ev,w.cell? ⟨2,0,none⟩=some ev∧(ev=.nilIface∨∃te pe,ev=.iface te pe))∧Lib.TabIs Tryz.prog w "internal/strconv.uint64pow10" .u64 Lib.pow10Tab
 hG:=by
  intro w w' ⟨⟨m,hm⟩,⟨e3,h3,k3⟩,⟨e4,h4,k4⟩,ht⟩ h
  have c:∀b,b<4→w'.cell? ⟨b,0,none⟩=w.cell? ⟨b,0,none⟩:=fun b hb=>World.cell?_of_block (a:=⟨b,0,none⟩) (h b hb)
  exact⟨⟨m,(c 0 (by decide)).trans hm⟩,⟨e3,(c 1 (by decide)).trans h3,k3⟩,⟨e4,(c 2 (by decide)).trans h4,k4⟩,J1q (g:=3) (by kernel_rfl) ht (h 3 (by decide))⟩
 bT:=some 60
 be:=5
 eqT:=X0s V1i
 pT:=some 62
 pe1:=5
 pe2:=51
 psz:=9
 hpT:=by
  intro t ht w
  cases ht
  kernel_rfl
 ownT:=fun t=>([36,37,70,83]:List Nat).contains t
 hEq:=fun t ks h=>J0s X4n h
 hbT:=by
  intro t ht w
  cases ht
  kernel_rfl
theorem X6i:env.pT=some 62:=rfl
theorem X9y:env.pe1=5:=rfl
theorem X9x:env.pe2=51:=rfl
theorem X9w:env.psz=9:=rfl
theorem X0a:J2m env.T 4=true:=rfl
theorem T_3:env.T 3=some ⟨.int .i64,1,8,some [.int .i64 0]⟩:=rfl
theorem T_4:env.T 4=some ⟨.bool,1,1,some [.bool false]⟩:=rfl
theorem T_5:env.T 5=some ⟨.int .u8,1,1,some [.int .u8 0]⟩:=rfl
theorem T_9:env.T 9=some ⟨.str,1,16,some [.str []]⟩:=rfl
theorem T_23:env.T 23=some ⟨.slice 36,1,24,some [.slice []]⟩:=rfl
theorem T_24:env.T 24=some ⟨.int .i64,1,8,some [.int .i64 0]⟩:=rfl
theorem T_33:env.T 33=some ⟨.slice 49,1,24,some [.slice []]⟩:=rfl
theorem T_34:env.T 34=some ⟨.slice 51,1,24,some [.slice []]⟩:=rfl
theorem T_36:env.T 36=some ⟨.strct [(0,1),(1,1),(2,1),(3,1),(4,1),(5,1)],6,104,some [.int .i64 0,.int .i64 0,.str [],.slice [],.slice [],.slice []]⟩:=rfl
theorem T_37:env.T 37=some ⟨.slice 87,1,24,some [.slice []]⟩:=rfl
theorem T_41:env.T 41=some ⟨.ptr 45,1,8,some [.nilp]⟩:=rfl
theorem T_42:env.T 42=some ⟨.slice 9,1,24,some [.slice []]⟩:=rfl
theorem T_45:env.T 45=some ⟨.strct [(0,1),(1,1),(2,1),(3,1),(4,1),(5,1)],6,88,some [.str [],.slice [],.slice [],.int .i64 0,.int .i64 0,.int .i64 0]⟩:=rfl
theorem T_49:env.T 49=some ⟨.strct [(0,1),(1,1),(2,1),(3,1),(4,1)],5,88,some [.int .i64 0,.str [],.str [],.slice [],.slice []]⟩:=rfl
theorem T_51:env.T 51=some ⟨.strct [(0,1),(1,1),(2,1),(3,5),(8,1)],9,120,some [.int .i64 0,.int .i64 0,.int .i64 0,.int .i64 0,.str [],.str [],.slice [],.slice [],.bool false]⟩:=rfl
theorem T_57:env.T 57=some ⟨.ptr 60,1,8,some [.nilp]⟩:=rfl
theorem T_58:env.T 58=some ⟨.slice 5,1,24,some [.slice []]⟩:=rfl
theorem T_60:env.T 60=some ⟨.strct [(0,1),(1,1)],2,32,some [.nilp,.slice []]⟩:=rfl
theorem T_62:env.T 62=some ⟨.strct [(0,2),(2,1)],3,56,some [.nilp,.slice [],.slice []]⟩:=rfl
theorem T_68:env.T 68=some ⟨.ptr 70,1,8,some [.nilp]⟩:=rfl
theorem T_70:env.T 70=some ⟨.strct [(0,1),(1,1),(2,1),(3,1),(4,1),(5,1),(6,1)],7,96,some [.str [],.int .i64 0,.slice [],.slice [],.int .i64 0,.int .i64 0,.int .i64 0]⟩:=rfl
theorem T_75:env.T 75=some ⟨.ptr 77,1,8,some [.nilp]⟩:=rfl
theorem T_77:env.T 77=some ⟨.strct [(0,1),(1,1),(2,1),(3,1)],4,72,some [.str [],.slice [],.slice [],.int .i64 0]⟩:=rfl
theorem T_83:env.T 83=some ⟨.strct [(0,1),(1,1),(2,1),(3,1),(4,1),(5,1),(6,1)],7,88,some [.int .i64 0,.slice [],.int .i64 0,.bool false,.slice [],.int .i64 0,.int .i64 0]⟩:=rfl
theorem T_87:env.T 87=some ⟨.strct [(0,1),(1,1),(2,1),(3,1)],4,48,some [.int .i64 0,.int .i64 0,.str [],.str []]⟩:=rfl
theorem T_94:env.T 94=some ⟨.ptr 62,1,8,some [.nilp]⟩:=rfl
theorem T_96:env.T 96=some ⟨.ptr 5,1,8,some [.nilp]⟩:=rfl
theorem Y0a:env.T 104=some ⟨.slice 3,1,24,some [.slice []]⟩:=rfl
theorem V9z:env.T 114=some ⟨.strct [(0,1),(1,1),(2,1),(3,1)],4,48,some [.str [],.str [],.int .i64 0,.bool false]⟩:=rfl
theorem V9y:env.T 118=some ⟨.strct [(0,1),(1,1),(2,1)],3,3,some [.bool false,.bool false,.bool false]⟩:=rfl
theorem X1l:env.T 133=some ⟨.iface,1,16,some [.nil]⟩:=rfl
theorem X8z:env.ownT 23=false:=rfl
theorem X8y:env.ownT 33=false:=rfl
theorem X8x:env.ownT 34=false:=rfl
theorem X8w:env.ownT 36=true:=rfl
theorem X8v:env.ownT 37=true:=rfl
theorem X8u:env.ownT 42=false:=rfl
theorem X8t:env.ownT 45=false:=rfl
theorem X8s:env.ownT 49=false:=rfl
theorem X8r:env.ownT 51=false:=rfl
theorem X8q:env.ownT 70=true:=rfl
theorem X8p:env.ownT 83=true:=rfl
theorem X8o:env.ownT 87=false:=rfl
theorem X3s:env.ownT 104=false:=rfl
theorem X3r:env.ownT 114=false:=rfl
theorem X3q:env.ownT 118=false:=rfl
theorem V9r:env.eqT 3=none:=rfl
theorem V9q:env.eqT 4=none:=rfl
theorem V9p:env.eqT 5=none:=rfl
theorem V9o:env.eqT 9=none:=rfl
theorem V1j:env.eqT 24=none:=rfl
theorem X9v:env.eqT 133=none:=rfl
theorem K2c(p:PV):qmkI env 73 (.pv p)=some (.ifc 73 p):=by
 simp only[qmkI]
 rw[show env.P.underlying 73=_ from Tryz.underlying73]
theorem X8l(cs:List PV):Q3u env 36 5 (.pv (.agg cs))=(Q2u ⟨.slice 36,1,24,some [.slice []]⟩ (cs.drop 5)).map .pv:=by
 have h:fieldAt env 36 5=some (5,23):=by kernel_rfl
 unfold Q3u
 rw[h]
 simp only[Q7f,T_23]
theorem X8k(cs:List PV):Q3u env 87 0 (.pv (.agg cs))=(Q2u ⟨.int .i64,1,8,some [.int .i64 0]⟩ (cs.drop 0)).map .pv:=by
 have h:fieldAt env 87 0=some (0,3):=by kernel_rfl
 unfold Q3u
 rw[h]
 simp only[Q7f,T_3]
theorem X8j(cs:List PV):Q3u env 87 1 (.pv (.agg cs))=(Q2u ⟨.int .i64,1,8,some [.int .i64 0]⟩ (cs.drop 1)).map .pv:=by
 have h:fieldAt env 87 1=some (1,3):=by kernel_rfl
 unfold Q3u
 rw[h]
 simp only[Q7f,T_3]
theorem X8i(cs:List PV):Q3u env 87 2 (.pv (.agg cs))=(Q2u ⟨.str,1,16,some [.str []]⟩ (cs.drop 2)).map .pv:=by
 have h:fieldAt env 87 2=some (2,9):=by kernel_rfl
 unfold Q3u
 rw[h]
 simp only[Q7f,T_9]
theorem X8h(cs:List PV):Q3u env 87 3 (.pv (.agg cs))=(Q2u ⟨.str,1,16,some [.str []]⟩ (cs.drop 3)).map .pv:=by
 have h:fieldAt env 87 3=some (3,9):=by kernel_rfl
 unfold Q3u
 rw[h]
 simp only[Q7f,T_9]
theorem X3m(vs:List AV):Q3u env 36 5 (.agg vs)=vs[5]?:=by
 have h:fieldAt env 36 5=some (5,23):=by kernel_rfl
 unfold Q3u
 rw[h]
 simp only[Q7f,T_23]
abbrev syn(n:Int):Value:=.iface 73 (.int .i64 n)
theorem mixed:env.P.follows .mixedOrders=true:=by kernel_rfl
theorem X0u:env.bT=some 60:=rfl
theorem V9s:env.P=Tryz.prog:=rfl
theorem fnq{f:FuncId}{fn:Func}(h:Tryz.prog.funcs[f]?=some fn):env.P.funcs[f]?=some fn:=h
def fn_3:=fnq Tryz.func3
def fn_7:=fnq Tryz.func7
def fn_8:=fnq Tryz.func8
def fn_9:=fnq Tryz.func9
def V1g:=fnq Tryz.func10
def V0z:=fnq Tryz.func11
def V9n:=fnq Tryz.func13
def K9y:=fnq Tryz.func15
def K9u:=fnq Tryz.func16
def V9m:=fnq Tryz.func17
def V9l:=fnq Tryz.func19
def K8x:=fnq Tryz.func20
def V9k:=fnq Tryz.func21
def V9j:=fnq Tryz.func22
def V9i:=fnq Tryz.func23
def V9h:=fnq Tryz.func24
def K7z:=fnq Tryz.func25
def K7r:=fnq Tryz.func26
def K7n:=fnq Tryz.func27
def V9g:=fnq Tryz.func29
def K7e:=fnq Tryz.func31
def V9f:=fnq Tryz.func32
def K7d:=fnq Tryz.func33
def V9e:=fnq Tryz.func34
def V9d:=fnq Tryz.func35
def X9u:=fnq Tryz.func36
def V9c:=fnq Tryz.func38
def V9b:=fnq Tryz.func39
def V9a:=fnq Tryz.func40
def V8z:=fnq Tryz.func41
def V8y:=fnq Tryz.func42
def V8x:=fnq Tryz.func43
def V8w:=fnq Tryz.func44
def V8v:=fnq Tryz.func46
def V8u:=fnq Tryz.func47
def V8t:=fnq Tryz.func48
def K7c:=fnq Tryz.func49
def V8s:=fnq Tryz.func50
def K7b:=fnq Tryz.func51
def V8r:=fnq Tryz.func52
def V8q:=fnq Tryz.func53
def V8p:=fnq Tryz.func54
def V8o:=fnq Tryz.func55
def V8n:=fnq Tryz.func56
def V8m:=fnq Tryz.func57
def V8l:=fnq Tryz.func58
def V8k:=fnq Tryz.func59
def V8j:=fnq Tryz.func60
def K7a:=fnq Tryz.func61
def V8i:=fnq Tryz.func63
def V8h:=fnq Tryz.func64
def K6z:=fnq Tryz.func66
def V8g:=fnq Tryz.func67
def V8f:=fnq Tryz.func71
def V8e:=fnq Tryz.func72
def V8d:=fnq Tryz.func73
def V8c:=fnq Tryz.func74
def V8b:=fnq Tryz.func75
def V8a:=fnq Tryz.func76
def V7z:=fnq Tryz.func77
def V7y:=fnq Tryz.func78
def V7x:=fnq Tryz.func79
def V7w:=fnq Tryz.func80
def V7v:=fnq Tryz.func81
def V7u:=fnq Tryz.func82
def V7t:=fnq Tryz.func83
def V7s:=fnq Tryz.func84
def K6y:=fnq Tryz.func85
def K6x:=fnq Tryz.func86
def V7r:=fnq Tryz.func87
def V7q:=fnq Tryz.func88
def V7p:=fnq Tryz.func89
def V7o:=fnq Tryz.func90
def V7n:=fnq Tryz.func91
def V7m:=fnq Tryz.func92
def V7l:=fnq Tryz.func93
def V7k:=fnq Tryz.func94
def V7j:=fnq Tryz.func95
def V7i:=fnq Tryz.func96
def V7h:=fnq Tryz.func97
def K6w:=fnq Tryz.func98
def V7g:=fnq Tryz.func99
def V1f:=fnq Tryz.func103
def V1e:=fnq Tryz.func104
def V1d:=fnq Tryz.func105
def V1c:=fnq Tryz.func106
def V1b:=fnq Tryz.func107
def V1a:=fnq Tryz.func108
def V0y:=fnq Tryz.func117
def V0x:=fnq Tryz.func118
def V0w:=fnq Tryz.func119
def V0v:=fnq Tryz.func120
def V0u:=fnq Tryz.func121
def V0t:=fnq Tryz.func122
def X6h:=fnq Tryz.func123
def V0s:=fnq Tryz.func124
def V0r:=fnq Tryz.func125
def V0q:=fnq Tryz.func126
def V0p:=fnq Tryz.func127
def V0o:=fnq Tryz.func128
def V0n:=fnq Tryz.func129
def V0m:=fnq Tryz.func130
def V0l:=fnq Tryz.func131
def V0k:=fnq Tryz.func132
def V0j:=fnq Tryz.func133
def V0i:=fnq Tryz.func134
def V0h:=fnq Tryz.func135
def V0g:=fnq Tryz.func136
def V0f:=fnq Tryz.func137
def V0e:=fnq Tryz.func138
def V0d:=fnq Tryz.func139
def V0c:=fnq Tryz.func140
def V0b:=fnq Tryz.func141
def X6g:=fnq Tryz.func142
def V0a:=fnq Tryz.func143
def K9z:=fnq Tryz.func144
def K9x:=fnq Tryz.func152
def K9w:=fnq Tryz.func153
def K9v:=fnq Tryz.func155
def K9t:=fnq Tryz.func161
def K9s:=fnq Tryz.func163
def K9r:=fnq Tryz.func166
def K9q:=fnq Tryz.func167
def K9p:=fnq Tryz.func168
def K9o:=fnq Tryz.func169
def K9n:=fnq Tryz.func170
def K9m:=fnq Tryz.func171
def K9l:=fnq Tryz.func172
def K9k:=fnq Tryz.func173
def K9j:=fnq Tryz.func174
def X6f:=fnq Tryz.func175
def K9i:=fnq Tryz.func176
def K9h:=fnq Tryz.func177
def K9g:=fnq Tryz.func178
def K9f:=fnq Tryz.func179
def K9e:=fnq Tryz.func180
def K9d:=fnq Tryz.func181
def X6e:=fnq Tryz.func182
def K9c:=fnq Tryz.func186
def K9b:=fnq Tryz.func187
def K9a:=fnq Tryz.func189
def K8z:=fnq Tryz.func190
def K8y:=fnq Tryz.func199
def X6d:=fnq Tryz.func200
def K8w:=fnq Tryz.func202
def K8v:=fnq Tryz.func203
def K8u:=fnq Tryz.func204
def K8t:=fnq Tryz.func205
def K8s:=fnq Tryz.func206
def K8r:=fnq Tryz.func207
def K8q:=fnq Tryz.func209
def K8p:=fnq Tryz.func210
def K8o:=fnq Tryz.func213
def K8n:=fnq Tryz.func216
def K8m:=fnq Tryz.func223
def K8l:=fnq Tryz.func224
def K8k:=fnq Tryz.func225
def K8j:=fnq Tryz.func226
def K8i:=fnq Tryz.func227
def K8h:=fnq Tryz.func228
def K8g:=fnq Tryz.func229
def K8f:=fnq Tryz.func230
def K8e:=fnq Tryz.func231
def K8d:=fnq Tryz.func232
def K8c:=fnq Tryz.func233
def K8b:=fnq Tryz.func234
def K8a:=fnq Tryz.func235
def X6c:=fnq Tryz.func252
def K7y:=fnq Tryz.func253
def K7x:=fnq Tryz.func254
def K7w:=fnq Tryz.func255
def K7v:=fnq Tryz.func256
def K7u:=fnq Tryz.func257
def K7t:=fnq Tryz.func258
def K7s:=fnq Tryz.func259
def K7q:=fnq Tryz.func260
def K7p:=fnq Tryz.func262
def K7o:=fnq Tryz.func263
def K7m:=fnq Tryz.func274
def K7l:=fnq Tryz.func275
def K7k:=fnq Tryz.func276
def K7j:=fnq Tryz.func277
def K7i:=fnq Tryz.func278
def K7h:=fnq Tryz.func286
def K7g:=fnq Tryz.func287
def K7f:=fnq Tryz.func288
structure Token where
 kind_:Int
 at_:Int
 text_:Str
 quoted_:Str
instance:Inhabited Token:=⟨⟨0,0,[],[]⟩⟩
def Token.pv(x:Token):PV:=.agg [.int .i64 x.kind_,.int .i64 x.at_,.str x.text_,.str x.quoted_]
theorem Token.pv_eq(x:Token):x.pv=.agg [.int .i64 x.kind_,.int .i64 x.at_,.str x.text_,.str x.quoted_]:=rfl
theorem Token.inj{x y:Token}(h:x.pv=y.pv):x=y:=by
 obtain⟨a1,a2,a3,a4⟩:=x
 obtain⟨b1,b2,b3,b4⟩:=y
 simp only[Token.pv,PV.agg.injEq,List.cons.injEq,and_true]at h
 obtain⟨h1,h2,h3,h4⟩:=h
 cases(Q2l h1)
 cases(Q2l h2)
 cases(Q5l h3)
 cases(Q5l h4)
 rfl
theorem Token.all(xs:List Token):((xs.map Token.pv).all fun z=>z.cells.length==4)=true:=by
 simp[Token.pv,PV.cells]
mutual
structure Cmd where
 kind_:Int
 at_:Int
 name_:Str
 words_:List Word
 redirs_:List Redir
 kids_:List Cmd
structure Word where
 kind_:Int
 text_:Str
 quoted_:Str
 words_:List Word
 cmd_:List Cmd
structure Redir where
 kind_:Int
 fd_:Int
 from_:Int
 word_:Word
 raw_:Bool
end
instance:Inhabited Cmd:=⟨⟨0,0,[],[],[],[]⟩⟩
instance:Inhabited Word:=⟨⟨0,[],[],[],[]⟩⟩
instance:Inhabited Redir:=⟨⟨0,0,0,default,false⟩⟩
mutual
def Cmd.cells:Cmd→List PV
 | ⟨a1,a2,a3,a4,a5,a6⟩=>[.int .i64 a1,.int .i64 a2,.str a3,.slice (Word.pvs a4),.slice (Redir.pvs a5),.slice (Cmd.pvs a6)]
def Cmd.pvs:List Cmd→List PV
 | []=>[]
 | x::r=>PV.agg x.cells::Cmd.pvs r
def Word.cells:Word→List PV
 | ⟨a1,a2,a3,a4,a5⟩=>[.int .i64 a1,.str a2,.str a3,.slice (Word.pvs a4),.slice (Cmd.pvs a5)]
def Word.pvs:List Word→List PV
 | []=>[]
 | x::r=>PV.agg x.cells::Word.pvs r
def Redir.cells:Redir→List PV
 | ⟨a1,a2,a3,⟨a4,a5,a6,a7,a8⟩,a9⟩=>[.int .i64 a1,.int .i64 a2,.int .i64 a3,.int .i64 a4,.str a5,.str a6,.slice (Word.pvs a7),.slice (Cmd.pvs a8),.bool a9]
def Redir.pvs:List Redir→List PV
 | []=>[]
 | x::r=>PV.agg x.cells::Redir.pvs r
end
def Cmd.pv(x:Cmd):PV:=.agg x.cells
theorem Cmd.pvs_eq:∀xs:List Cmd,Cmd.pvs xs=xs.map Cmd.pv
 | []=>by rw[Cmd.pvs];rfl
 | x::r=>by rw[Cmd.pvs,Cmd.pvs_eq r];rfl
def Word.pv(x:Word):PV:=.agg x.cells
theorem Word.pvs_eq:∀xs:List Word,Word.pvs xs=xs.map Word.pv
 | []=>by rw[Word.pvs];rfl
 | x::r=>by rw[Word.pvs,Word.pvs_eq r];rfl
def Redir.pv(x:Redir):PV:=.agg x.cells
theorem Redir.pvs_eq:∀xs:List Redir,Redir.pvs xs=xs.map Redir.pv
 | []=>by rw[Redir.pvs];rfl
 | x::r=>by rw[Redir.pvs,Redir.pvs_eq r];rfl
theorem Cmd.pv_eq(x:Cmd):x.pv=.agg [.int .i64 x.kind_,.int .i64 x.at_,.str x.name_,.slice (List.map Word.pv x.words_),.slice (List.map Redir.pv x.redirs_),.slice (List.map Cmd.pv x.kids_)]:=by
 obtain⟨a1,a2,a3,a4,a5,a6⟩:=x
 simp only[Cmd.pv,Cmd.cells,Cmd.pvs_eq,Word.pvs_eq,Redir.pvs_eq]
theorem Word.pv_eq(x:Word):x.pv=.agg [.int .i64 x.kind_,.str x.text_,.str x.quoted_,.slice (List.map Word.pv x.words_),.slice (List.map Cmd.pv x.cmd_)]:=by
 obtain⟨a1,a2,a3,a4,a5⟩:=x
 simp only[Word.pv,Word.cells,Cmd.pvs_eq,Word.pvs_eq,Redir.pvs_eq]
theorem Redir.pv_eq(x:Redir):x.pv=.agg [.int .i64 x.kind_,.int .i64 x.fd_,.int .i64 x.from_,.int .i64 x.word_.kind_,.str x.word_.text_,.str x.word_.quoted_,.slice (List.map Word.pv x.word_.words_),.slice (List.map Cmd.pv x.word_.cmd_),.bool x.raw_]:=by
 obtain⟨a1,a2,a3,⟨a4,a5,a6,a7,a8⟩,a9⟩:=x
 simp only[Redir.pv,Redir.cells,Cmd.pvs_eq,Word.pvs_eq,Redir.pvs_eq]
mutual
theorem Cmd.cinj:∀ (x y:Cmd),x.cells=y.cells→x=y
 | ⟨a1,a2,a3,a4,a5,a6⟩,⟨b1,b2,b3,b4,b5,b6⟩,h=>by
  simp only[Cmd.cells,List.cons.injEq,PV.slice.injEq,and_true]at h
  obtain⟨h1,h2,h3,h4,h5,h6⟩:=h
  cases(Q2l h1)
  cases(Q2l h2)
  cases(Q5l h3)
  cases Word.injs _ _ h4
  cases Redir.injs _ _ h5
  cases Cmd.injs _ _ h6
  rfl
theorem Cmd.injs:∀ (x y:List Cmd),Cmd.pvs x=Cmd.pvs y→x=y
 | [],[],_=>rfl
 | [],y::ys,h=>by simp[Cmd.pvs]at h
 | x::xs,[],h=>by simp[Cmd.pvs]at h
 | x::xs,y::ys,h=>by
  simp only[Cmd.pvs,List.cons.injEq,PV.agg.injEq]at h
  rw[Cmd.cinj x y h.1,Cmd.injs xs ys h.2]
theorem Word.cinj:∀ (x y:Word),x.cells=y.cells→x=y
 | ⟨a1,a2,a3,a4,a5⟩,⟨b1,b2,b3,b4,b5⟩,h=>by
  simp only[Word.cells,List.cons.injEq,PV.slice.injEq,and_true]at h
  obtain⟨h1,h2,h3,h4,h5⟩:=h
  cases(Q2l h1)
  cases(Q5l h2)
  cases(Q5l h3)
  cases Word.injs _ _ h4
  cases Cmd.injs _ _ h5
  rfl
theorem Word.injs:∀ (x y:List Word),Word.pvs x=Word.pvs y→x=y
 | [],[],_=>rfl
 | [],y::ys,h=>by simp[Word.pvs]at h
 | x::xs,[],h=>by simp[Word.pvs]at h
 | x::xs,y::ys,h=>by
  simp only[Word.pvs,List.cons.injEq,PV.agg.injEq]at h
  rw[Word.cinj x y h.1,Word.injs xs ys h.2]
theorem Redir.cinj:∀ (x y:Redir),x.cells=y.cells→x=y
 | ⟨a1,a2,a3,⟨a4,a5,a6,a7,a8⟩,a9⟩,⟨b1,b2,b3,⟨b4,b5,b6,b7,b8⟩,b9⟩,h=>by
  simp only[Redir.cells,List.cons.injEq,PV.slice.injEq,and_true]at h
  obtain⟨h1,h2,h3,h4,h5,h6,h7,h8,h9⟩:=h
  cases(Q2l h1)
  cases(Q2l h2)
  cases(Q2l h3)
  cases(Q2l h4)
  cases(Q5l h5)
  cases(Q5l h6)
  cases Word.injs _ _ h7
  cases Cmd.injs _ _ h8
  cases(Q8k h9)
  rfl
theorem Redir.injs:∀ (x y:List Redir),Redir.pvs x=Redir.pvs y→x=y
 | [],[],_=>rfl
 | [],y::ys,h=>by simp[Redir.pvs]at h
 | x::xs,[],h=>by simp[Redir.pvs]at h
 | x::xs,y::ys,h=>by
  simp only[Redir.pvs,List.cons.injEq,PV.agg.injEq]at h
  rw[Redir.cinj x y h.1,Redir.injs xs ys h.2]
end
theorem Cmd.inj{x y:Cmd}(h:x.pv=y.pv):x=y:=Cmd.cinj x y (PV.agg.inj h)
theorem Cmd.injA{x y:Cmd}(h:PV.agg [.int .i64 (x.kind_),.int .i64 (x.at_),.str (x.name_),.slice (List.map Word.pv (x.words_)),.slice (List.map Redir.pv (x.redirs_)),.slice (List.map Cmd.pv (x.kids_))]=PV.agg [.int .i64 (y.kind_),.int .i64 (y.at_),.str (y.name_),.slice (List.map Word.pv (y.words_)),.slice (List.map Redir.pv (y.redirs_)),.slice (List.map Cmd.pv (y.kids_))]):x=y:=Cmd.inj ((Cmd.pv_eq x).trans (h.trans (Cmd.pv_eq y).symm))
theorem Cmd.all(xs:List Cmd):((xs.map Cmd.pv).all fun z=>z.cells.length==6)=true:=by
 simp[Cmd.pv_eq,PV.cells]
theorem Word.inj{x y:Word}(h:x.pv=y.pv):x=y:=Word.cinj x y (PV.agg.inj h)
theorem Word.injA{x y:Word}(h:PV.agg [.int .i64 (x.kind_),.str (x.text_),.str (x.quoted_),.slice (List.map Word.pv (x.words_)),.slice (List.map Cmd.pv (x.cmd_))]=PV.agg [.int .i64 (y.kind_),.str (y.text_),.str (y.quoted_),.slice (List.map Word.pv (y.words_)),.slice (List.map Cmd.pv (y.cmd_))]):x=y:=Word.inj ((Word.pv_eq x).trans (h.trans (Word.pv_eq y).symm))
theorem Word.all(xs:List Word):((xs.map Word.pv).all fun z=>z.cells.length==5)=true:=by
 simp[Word.pv_eq,PV.cells]
theorem Redir.inj{x y:Redir}(h:x.pv=y.pv):x=y:=Redir.cinj x y (PV.agg.inj h)
theorem Redir.injA{x y:Redir}(h:PV.agg [.int .i64 (x.kind_),.int .i64 (x.fd_),.int .i64 (x.from_),.int .i64 (x.word_.kind_),.str (x.word_.text_),.str (x.word_.quoted_),.slice (List.map Word.pv (x.word_.words_)),.slice (List.map Cmd.pv (x.word_.cmd_)),.bool (x.raw_)]=PV.agg [.int .i64 (y.kind_),.int .i64 (y.fd_),.int .i64 (y.from_),.int .i64 (y.word_.kind_),.str (y.word_.text_),.str (y.word_.quoted_),.slice (List.map Word.pv (y.word_.words_)),.slice (List.map Cmd.pv (y.word_.cmd_)),.bool (y.raw_)]):x=y:=Redir.inj ((Redir.pv_eq x).trans (h.trans (Redir.pv_eq y).symm))
theorem Redir.all(xs:List Redir):((xs.map Redir.pv).all fun z=>z.cells.length==9)=true:=by
 simp[Redir.pv_eq,PV.cells]
def P23(xs:List Cmd):PV:=.slice (xs.map Cmd.pv)
theorem X6r(xs:List Cmd):P23 xs=.slice (xs.map Cmd.pv):=rfl
theorem K0m{x y:List Cmd}(h:P23 x=P23 y):x=y:=Q5y (fun _ _=>Cmd.inj) (PV.slice.inj h)
def P33(xs:List Word):PV:=.slice (xs.map Word.pv)
theorem X6q(xs:List Word):P33 xs=.slice (xs.map Word.pv):=rfl
theorem K0l{x y:List Word}(h:P33 x=P33 y):x=y:=Q5y (fun _ _=>Word.inj) (PV.slice.inj h)
def P34(xs:List Redir):PV:=.slice (xs.map Redir.pv)
theorem X6p(xs:List Redir):P34 xs=.slice (xs.map Redir.pv):=rfl
theorem K0k{x y:List Redir}(h:P34 x=P34 y):x=y:=Q5y (fun _ _=>Redir.inj) (PV.slice.inj h)
structure Shape where
 name_:Bool
 words_:Bool
 redirs_:Bool
instance:Inhabited Shape:=⟨⟨false,false,false⟩⟩
def Shape.pv(x:Shape):PV:=.agg [.bool x.name_,.bool x.words_,.bool x.redirs_]
theorem Shape.pv_eq(x:Shape):x.pv=.agg [.bool x.name_,.bool x.words_,.bool x.redirs_]:=rfl
theorem Shape.inj{x y:Shape}(h:x.pv=y.pv):x=y:=by
 obtain⟨a1,a2,a3⟩:=x
 obtain⟨b1,b2,b3⟩:=y
 simp only[Shape.pv,PV.agg.injEq,List.cons.injEq,and_true]at h
 obtain⟨h1,h2,h3⟩:=h
 cases(Q8k h1)
 cases(Q8k h2)
 cases(Q8k h3)
 rfl
structure Part where
 text_:Str
 quoted_:Str
 to_:Int
 ok_:Bool
instance:Inhabited Part:=⟨⟨[],[],0,false⟩⟩
def Part.pv(x:Part):PV:=.agg [.str x.text_,.str x.quoted_,.int .i64 x.to_,.bool x.ok_]
theorem Part.pv_eq(x:Part):x.pv=.agg [.str x.text_,.str x.quoted_,.int .i64 x.to_,.bool x.ok_]:=rfl
theorem Part.inj{x y:Part}(h:x.pv=y.pv):x=y:=by
 obtain⟨a1,a2,a3,a4⟩:=x
 obtain⟨b1,b2,b3,b4⟩:=y
 simp only[Part.pv,PV.agg.injEq,List.cons.injEq,and_true]at h
 obtain⟨h1,h2,h3,h4⟩:=h
 cases(Q5l h1)
 cases(Q5l h2)
 cases(Q2l h3)
 cases(Q8k h4)
 rfl
def pfn:FuncId→Bool:=fun f=>[7,8,9,10,11,13,15,16,17,19,20,21,22,23,25,26,27,29,31,32,33,34,40,42,50,51,54,61,63,64,72,74,83,86,88,92,94,98,99,108,117,118,119,124,125,126,128,129,130,133,134,135,136,137,138,139,143,144,155,161,166,169,170,171,172,182,186,187,189,199,204,207,209,210,213,216,233,234,260,263,275,276,277,278,287,288].contains f
def TYS:=And.intro X0u (
 And.intro X6i (
 And.intro X9y (
 And.intro X9x (
 And.intro X9w (
 And.intro X0a (
 And.intro T_3 (
 And.intro T_4 (
 And.intro T_5 (
 And.intro T_9 (
 And.intro T_23 (
 And.intro T_24 (
 And.intro T_33 (
 And.intro T_34 (
 And.intro T_36 (
 And.intro T_37 (
 And.intro T_41 (
 And.intro T_42 (
 And.intro T_45 (
 And.intro T_49 (
 And.intro T_51 (
 And.intro T_57 (
 And.intro T_58 (
 And.intro T_60 (
 And.intro T_62 (
 And.intro T_68 (
 And.intro T_70 (
 And.intro T_75 (
 And.intro T_77 (
 And.intro T_83 (
 And.intro T_87 (
 And.intro T_94 (
 And.intro Y0a (
 And.intro V9z (
 And.intro V9y (
 And.intro X1l (
 And.intro X8z (
 And.intro X8y (
 And.intro X8x (
 And.intro X8w (
 And.intro X8v (
 And.intro X8u (
 And.intro X8t (
 And.intro X8s (
 And.intro X8r (
 And.intro X8q (
 And.intro X8p (
 And.intro X8o (
 And.intro X3s (
 And.intro X3r (
 And.intro X3q (
 And.intro V9r (
 And.intro V9q (
 And.intro V9p (
 And.intro V9o (
 And.intro V1j (
 And.intro X9v (
 And.intro @K2c (
 And.intro @X8l (
 And.intro @X8k (
 And.intro @X8j (
 And.intro @X8i (
 And.intro @X8h (
 And.intro @X3m (
 And.intro @X8a (
 And.intro @X9g (
 And.intro @X4u (
 And.intro @Token.pv_eq (
 And.intro @X6r (
 And.intro @Word.pv_eq (
 And.intro @X6q (
 And.intro @Redir.pv_eq (
 And.intro @X6p (
 And.intro @Cmd.pv_eq (
 And.intro @Shape.pv_eq (
 And.intro @Part.pv_eq (
 And.intro @Token.all (
 And.intro @Cmd.all (
 And.intro @Word.all (
 @Redir.all)))))))))))))))))))))))))))))))))))))))))))))))))))))))))))))))))))))))))))))))
theorem X7y(x y:List UInt8):(PV.str x=PV.str y)=(x=y):=PV.str.injEq x y
theorem X9d(k:IntKind)(x y:Int):(PV.int k x=PV.int k y)=(x=y):=propext ⟨Q2l,fun h=>by rw[h]⟩
theorem X4t(x y:Bool):(PV.bool x=PV.bool y)=(x=y):=PV.bool.injEq x y
theorem J8k(x y:List PV):(PV.slice x=PV.slice y)=(x=y):=PV.slice.injEq x y
theorem Q1o{α:Type}{f:α→PV}(hf:∀x y,f x=f y→x=y)(x y:List α):(List.map f x=List.map f y)=(x=y):=propext ⟨Q5y hf,fun h=>by rw[h]⟩
theorem Token.iff(x y:Token):(PV.agg [.int .i64 (x.kind_),.int .i64 (x.at_),.str (x.text_),.str (x.quoted_)]=PV.agg [.int .i64 (y.kind_),.int .i64 (y.at_),.str (y.text_),.str (y.quoted_)])=(x=y):=propext ⟨Token.inj (x:=x) (y:=y),fun h=>by rw[h]⟩
theorem Word.iff(x y:Word):(PV.agg [.int .i64 (x.kind_),.str (x.text_),.str (x.quoted_),.slice (List.map Word.pv (x.words_)),.slice (List.map Cmd.pv (x.cmd_))]=PV.agg [.int .i64 (y.kind_),.str (y.text_),.str (y.quoted_),.slice (List.map Word.pv (y.words_)),.slice (List.map Cmd.pv (y.cmd_))])=(x=y):=propext ⟨Word.injA (x:=x) (y:=y),fun h=>by rw[h]⟩
theorem Redir.iff(x y:Redir):(PV.agg [.int .i64 (x.kind_),.int .i64 (x.fd_),.int .i64 (x.from_),.int .i64 (x.word_.kind_),.str (x.word_.text_),.str (x.word_.quoted_),.slice (List.map Word.pv (x.word_.words_)),.slice (List.map Cmd.pv (x.word_.cmd_)),.bool (x.raw_)]=PV.agg [.int .i64 (y.kind_),.int .i64 (y.fd_),.int .i64 (y.from_),.int .i64 (y.word_.kind_),.str (y.word_.text_),.str (y.word_.quoted_),.slice (List.map Word.pv (y.word_.words_)),.slice (List.map Cmd.pv (y.word_.cmd_)),.bool (y.raw_)])=(x=y):=propext ⟨Redir.injA (x:=x) (y:=y),fun h=>by rw[h]⟩
theorem Cmd.iff(x y:Cmd):(PV.agg [.int .i64 (x.kind_),.int .i64 (x.at_),.str (x.name_),.slice (List.map Word.pv (x.words_)),.slice (List.map Redir.pv (x.redirs_)),.slice (List.map Cmd.pv (x.kids_))]=PV.agg [.int .i64 (y.kind_),.int .i64 (y.at_),.str (y.name_),.slice (List.map Word.pv (y.words_)),.slice (List.map Redir.pv (y.redirs_)),.slice (List.map Cmd.pv (y.kids_))])=(x=y):=propext ⟨Cmd.injA (x:=x) (y:=y),fun h=>by rw[h]⟩
theorem Shape.iff(x y:Shape):(PV.agg [.bool (x.name_),.bool (x.words_),.bool (x.redirs_)]=PV.agg [.bool (y.name_),.bool (y.words_),.bool (y.redirs_)])=(x=y):=propext ⟨Shape.inj (x:=x) (y:=y),fun h=>by rw[h]⟩
theorem Part.iff(x y:Part):(PV.agg [.str (x.text_),.str (x.quoted_),.int .i64 (x.to_),.bool (x.ok_)]=PV.agg [.str (y.text_),.str (y.quoted_),.int .i64 (y.to_),.bool (y.ok_)])=(x=y):=propext ⟨Part.inj (x:=x) (y:=y),fun h=>by rw[h]⟩
theorem V4k(x y):(List.map PV.str x=List.map PV.str y)=(x=y):=Q1o (fun _ _=>Q5l) x y
theorem V4j(x y):(List.map PV.bool x=List.map PV.bool y)=(x=y):=Q1o (fun _ _=>Q8k) x y
theorem V4i(x y):(List.map (PV.int .i32) x=List.map (PV.int .i32) y)=(x=y):=Q1o (fun _ _=>Q2l) x y
theorem V4h(x y):(List.map (PV.int .i64) x=List.map (PV.int .i64) y)=(x=y):=Q1o (fun _ _=>Q2l) x y
theorem V4g(x y):(List.map (PV.int .u32) x=List.map (PV.int .u32) y)=(x=y):=Q1o (fun _ _=>Q2l) x y
theorem V4f(x y):(List.map (PV.int .u64) x=List.map (PV.int .u64) y)=(x=y):=Q1o (fun _ _=>Q2l) x y
theorem V4e(x y):(List.map (PV.int .u8) x=List.map (PV.int .u8) y)=(x=y):=Q1o (fun _ _=>Q2l) x y
theorem V4d(x y):(List.map Token.pv x=List.map Token.pv y)=(x=y):=Q1o (fun _ _=>Token.inj) x y
theorem V4c(x y):(List.map P23 x=List.map P23 y)=(x=y):=Q1o (fun _ _=>K0m) x y
theorem V4b(x y):(List.map Word.pv x=List.map Word.pv y)=(x=y):=Q1o (fun _ _=>Word.inj) x y
theorem K2i(x y):(List.map P33 x=List.map P33 y)=(x=y):=Q1o (fun _ _=>K0l) x y
theorem K2h(x y):(List.map Redir.pv x=List.map Redir.pv y)=(x=y):=Q1o (fun _ _=>Redir.inj) x y
theorem K2g(x y):(List.map P34 x=List.map P34 y)=(x=y):=Q1o (fun _ _=>K0k) x y
theorem K2f(x y):(List.map Cmd.pv x=List.map Cmd.pv y)=(x=y):=Q1o (fun _ _=>Cmd.inj) x y
theorem K2e(x y):(List.map Shape.pv x=List.map Shape.pv y)=(x=y):=Q1o (fun _ _=>Shape.inj) x y
theorem K2d(x y):(List.map Part.pv x=List.map Part.pv y)=(x=y):=Q1o (fun _ _=>Part.inj) x y
def INJS:=And.intro @X7y (
 And.intro @X9d (
 And.intro @X4t (
 And.intro @J8k (
 And.intro @Token.iff (
 And.intro @Word.iff (
 And.intro @Redir.iff (
 And.intro @Cmd.iff (
 And.intro @Shape.iff (
 And.intro @Part.iff (
 And.intro @V4k (
 And.intro @V4j (
 And.intro @V4i (
 And.intro @V4h (
 And.intro @V4g (
 And.intro @V4f (
 And.intro @V4e (
 And.intro @V4d (
 And.intro @V4c (
 And.intro @V4b (
 And.intro @K2i (
 And.intro @K2h (
 And.intro @K2g (
 And.intro @K2f (
 And.intro @K2e (
 @K2d)))))))))))))))))))))))))
def mkS(f:Nat){α ρ:Type}(F:α→Option ρ)(A:α→List AV×List AObj)(R:α→ρ→Out)(h:∀x y,A x=A y→x=y:=by
 (first|(intro _ _ _;rfl)|((try simp only[Prod.forall]);intros;rename_i h;simp only[Prod.mk.injEq,List.cons.injEq,AV.pv.injEq,AV.agg.injEq,AV.vec.injEq,AV.full.injEq,AObj.bld.injEq,AObj.prn.injEq,AObj.map.injEq,AObj.row.injEq,AObj.var.injEq,INJS,and_true,true_and,and_assoc]at h;first|exact h|(simp only[h,and_self,Prod.mk.injEq,and_true,true_and])|(obtain⟨_,h⟩:=h;exact h)))):Spec:=⟨f,α,ρ,F,A,R,h⟩
theorem bq1:(true==false)=false:=rfl
theorem bq2:(false==true)=false:=rfl
theorem an{a b:Prop}(x:a)(y:b):a∧b:=⟨x,y⟩
theorem obs{α β:Type}{o:Option α}{f:α→Option β}{b:β}(h:o.bind f=some b):∃a,o=some a∧f a=some b:=Option.bind_eq_some_iff.1 h
theorem fin{E:Env}{rv:List ResultVar}{m:Nat}{e:List Nat}{σ:St}{x:Option (List AV×List AObj)}(h:Z6l E rv m e σ=x∨Z1d E rv m σ=x:=by first|exact .inl rfl|exact .inr rfl|(simp only[List.map_cons,List.map_nil,List.length_set,TYS];first|exact .inl rfl|exact .inr rfl)|(refine Or.inl ?_;simp[Z6l,Q7e,Q0s,toPV,Q0y,sl,AObj.ren,renL,AV.ren,idx,List.range_succ,TYS];done)|(refine Or.inr ?_;simp[Z1d,Q7e,Q8f,Q8m,toPV,Q5h,Q0y,sl,AObj.ren,renL,AV.ren,idx,Z3p,Z4t,List.range_succ,TYS];done)):Z6l E rv m e σ=x∨Z1d E rv m σ=x:=h
theorem dk1{Q P:Prop}(q:Q)(h:Q→P:=by intro q;simp -implicitDefEqProofs only[RUNS,Q1b,Nat.reduceAdd,Nat.reduceLeDiff,Nat.reduceSub,reduceIte,Nat.reduceEqDiff,Nat.reduceLT,reduceCtorEq,Nat.reduceMul,Nat.reduceBEq,Int.reduceEq,Int.reduceToNat,Int.toNat_zero,Nat.sub_zero,if_true,if_false,eq_self,ne_eq,TYS,PU,Option.map_some,q]<;>(try simp only[List.length_take,List.length_drop,List.length_map])):P:=h q
theorem dv{P:Prop}(h:P:=by simp -implicitDefEqProofs only[RUNS,Q1b,Nat.reduceAdd,Nat.reduceLeDiff,Nat.reduceSub,reduceIte,Nat.reduceEqDiff,Nat.reduceLT,reduceCtorEq,Nat.reduceMul,Nat.reduceBEq,Int.reduceEq,Int.reduceToNat,Int.toNat_zero,Nat.sub_zero,if_true,if_false,eq_self,ne_eq,Q1w,gdec,List.getD_cons_zero,List.getD_cons_succ,List.contains_cons,List.contains_nil,Bool.false_eq_true,bq1,bq2,TYS]):P:=h
theorem dv1{Q P:Prop}(q:Q)(h:Q→P:=by intro q;simp -implicitDefEqProofs only[RUNS,Q1b,Nat.reduceAdd,Nat.reduceLeDiff,Nat.reduceSub,reduceIte,Nat.reduceEqDiff,Nat.reduceLT,reduceCtorEq,Nat.reduceMul,Nat.reduceBEq,Int.reduceEq,Int.reduceToNat,Int.toNat_zero,Nat.sub_zero,if_true,if_false,eq_self,ne_eq,Q1w,gdec,List.getD_cons_zero,List.getD_cons_succ,List.contains_cons,List.contains_nil,Bool.false_eq_true,bq1,bq2,TYS,PU,Option.map_some,q]):P:=h q
theorem di{P:Prop}(h:P:=by simp -implicitDefEqProofs only[RUNS,Q1b,Nat.reduceAdd,Nat.reduceLeDiff,Nat.reduceSub,reduceIte,Nat.reduceEqDiff,Nat.reduceLT,reduceCtorEq,Nat.reduceMul,Nat.reduceBEq,Int.reduceEq,Int.reduceToNat,Int.toNat_zero,Nat.sub_zero,if_true,if_false,eq_self,ne_eq,Q3h,Q2m,Q2b,TYS];exact⟨rfl,rfl⟩):P:=h
theorem di1{Q P:Prop}(q:Q)(h:Q→P:=by intro q;simp -implicitDefEqProofs only[RUNS,Q1b,Nat.reduceAdd,Nat.reduceLeDiff,Nat.reduceSub,reduceIte,Nat.reduceEqDiff,Nat.reduceLT,reduceCtorEq,Nat.reduceMul,Nat.reduceBEq,Int.reduceEq,Int.reduceToNat,Int.toNat_zero,Nat.sub_zero,if_true,if_false,eq_self,ne_eq,Q3h,Q2m,Q2b,TYS,PU,Option.map_some,q];exact⟨rfl,rfl⟩):P:=h q
theorem kp{P:Prop}(h:P:=by(repeat' first|exact trivial|refine⟨rfl,?_⟩|refine⟨(by simp only[List.length_set];rfl),?_⟩)):P:=h
theorem dh{P:Prop}(h:P:=by(((simp -implicitDefEqProofs only[RUNS,Q1b,Nat.reduceAdd,Nat.reduceLeDiff,Nat.reduceSub,reduceIte,Nat.reduceEqDiff,Nat.reduceLT,reduceCtorEq,Nat.reduceMul,Nat.reduceBEq,Int.reduceEq,Int.reduceToNat,Int.toNat_zero,Nat.sub_zero,if_true,if_false,eq_self,ne_eq,TYS]);repeat'(split<;>rename_i hb<;>(try simp only[HBS,ge_iff_le,gt_iff_lt]at hb)<;>(try simp only[hb,Int.toNat_natCast,Int.toNat_zero,Int.reduceToNat,Nat.sub_zero,List.drop_zero,List.length_map]at q)<;>simp -implicitDefEqProofs only[RUNS,Q1b,Nat.reduceAdd,Nat.reduceLeDiff,Nat.reduceSub,reduceIte,Nat.reduceEqDiff,Nat.reduceLT,reduceCtorEq,Nat.reduceMul,Nat.reduceBEq,Int.reduceEq,Int.reduceToNat,Int.toNat_zero,Nat.sub_zero,if_true,if_false,eq_self,ne_eq,TYS, *,decide_true,decide_false,Decidable.not_not,not_false_eq_true,not_true_eq_false]));all_goals(first|(simp only[J3l];done)|(simp[*];done)|((try simp only[CLOS,beq_iff_eq,bne_iff_ne,ne_eq]at *)<;>omega)|(simp_all;done)|(simp_all<;>omega)))):P:=h
theorem dh1{Q P:Prop}(q:Q)(h:Q→P:=by(intro q;((simp -implicitDefEqProofs only[RUNS,Q1b,Nat.reduceAdd,Nat.reduceLeDiff,Nat.reduceSub,reduceIte,Nat.reduceEqDiff,Nat.reduceLT,reduceCtorEq,Nat.reduceMul,Nat.reduceBEq,Int.reduceEq,Int.reduceToNat,Int.toNat_zero,Nat.sub_zero,if_true,if_false,eq_self,ne_eq,TYS,PU,Option.map_some,q]);repeat'(split<;>rename_i hb<;>(try simp only[HBS,ge_iff_le,gt_iff_lt]at hb)<;>(try simp only[hb,Int.toNat_natCast,Int.toNat_zero,Int.reduceToNat,Nat.sub_zero,List.drop_zero,List.length_map]at q)<;>simp -implicitDefEqProofs only[RUNS,Q1b,Nat.reduceAdd,Nat.reduceLeDiff,Nat.reduceSub,reduceIte,Nat.reduceEqDiff,Nat.reduceLT,reduceCtorEq,Nat.reduceMul,Nat.reduceBEq,Int.reduceEq,Int.reduceToNat,Int.toNat_zero,Nat.sub_zero,if_true,if_false,eq_self,ne_eq,TYS,PU,Option.map_some,q, *,decide_true,decide_false,Decidable.not_not,not_false_eq_true,not_true_eq_false]));all_goals(first|(simp only[J3l];done)|(simp[*];done)|((try simp only[CLOS,beq_iff_eq,bne_iff_ne,ne_eq]at *)<;>omega)|(simp_all;done)|(simp_all<;>omega)))):P:=h q
theorem dp{P:Prop}(h:P:=by simp -implicitDefEqProofs only[RUNS,Q1b,Nat.reduceAdd,Nat.reduceLeDiff,Nat.reduceSub,reduceIte,Nat.reduceEqDiff,Nat.reduceLT,reduceCtorEq,Nat.reduceMul,Nat.reduceBEq,Int.reduceEq,Int.reduceToNat,Int.toNat_zero,Nat.sub_zero,if_true,if_false,eq_self,ne_eq,Z2a,TYS];first|exact Q6b.panic rfl rfl rfl|exact Q6b.call rfl rfl (by simp -implicitDefEqProofs only[RUNS,Q1b,Nat.reduceAdd,Nat.reduceLeDiff,Nat.reduceSub,reduceIte,Nat.reduceEqDiff,Nat.reduceLT,reduceCtorEq,Nat.reduceMul,Nat.reduceBEq,Int.reduceEq,Int.reduceToNat,Int.toNat_zero,Nat.sub_zero,if_true,if_false,eq_self,ne_eq,TYS];first|done|rfl|exact⟨rfl,rfl⟩)):P:=h
theorem dp1{Q P:Prop}(q:Q)(h:Q→P:=by intro q;simp -implicitDefEqProofs only[RUNS,Q1b,Nat.reduceAdd,Nat.reduceLeDiff,Nat.reduceSub,reduceIte,Nat.reduceEqDiff,Nat.reduceLT,reduceCtorEq,Nat.reduceMul,Nat.reduceBEq,Int.reduceEq,Int.reduceToNat,Int.toNat_zero,Nat.sub_zero,if_true,if_false,eq_self,ne_eq,Z2a,TYS,PU,Option.map_some,q];first|exact Q6b.panic rfl rfl rfl|exact Q6b.call rfl rfl (by simp -implicitDefEqProofs only[RUNS,Q1b,Nat.reduceAdd,Nat.reduceLeDiff,Nat.reduceSub,reduceIte,Nat.reduceEqDiff,Nat.reduceLT,reduceCtorEq,Nat.reduceMul,Nat.reduceBEq,Int.reduceEq,Int.reduceToNat,Int.toNat_zero,Nat.sub_zero,if_true,if_false,eq_self,ne_eq,TYS,PU,Option.map_some,q];first|done|rfl|exact⟨rfl,rfl⟩)):P:=h q
theorem hq{P:Prop}(h:P:=by first|rfl|(simp only[List.take_succ_cons,List.take_zero,List.take_nil,List.map_set,List.length_set,List.map_cons,List.map_nil,TYS];done)):P:=h
theorem ap0{O:Orc}{pf:FuncId→Bool}(f:FuncId)(h:O.pf=pf){q:Prop}(e:q)(hb:pf f=false:=by rfl):O.pf f=false∧q:=⟨pft h f hb,e⟩
theorem ap1{O:Orc}{pf:FuncId→Bool}(f:FuncId)(h:O.pf=pf){q:Prop}(e:q)(hb:pf f=true:=by rfl):O.pf f=true∧q:=⟨pft h f hb,e⟩
theorem srg{E:Env}{O:Orc}{k:Nat}{Q:Exit→St→Prop}(hS:Q1m E O)(ks:List Nat){id n:Nat}{t:Nat→AV}{h:List AObj}{ops:Array Oper}{y:Code}{L:List (Nat×AV)}{h':List AObj}(hr:Q1x ks L h' (arun E O ops ops.toList ⟨t,n,h⟩))(hQ:AW E k y Q ⟨sl L,n,h'⟩):AW E k (.seq (.region id ops false) y) Q ⟨t,n,h⟩:=AW.seq (AW.rg hS ks hr hQ)
theorem orp{E:Env}{L:List Spec}(c:AllG E L):∃ (O:Orc) (X:XO),Q1m E O∧Q6c E X∧O.pf=pfn∧∀ (i f:Nat) {S:Spec},Q0z L i f=some S→Kn O X f S:=orcs (pf:=pfn) c
theorem gh{E:Env}{S:Spec}{fn:Func}{c:Code}(hf:E.P.funcs[S.f]?=some fn)(N:Nat)(h:∀ (x:S.α) (r:S.ρ),S.F x=some r→∀m,(S.A x).2.length=m→(decide ((S.A x).1.length≤N)=true∧AW E m c (retB E fn m [] (S.A x).2 (S.R x r)) ⟨sl (enum 0 (S.A x).1),N,(S.A x).2⟩))(hnm:(fn.name=="runtime.NumGoroutine")=false:=by rfl)(hb:fn.body=some c:=by rfl)(hN:fn.ntmps=N:=by rfl)(hd0:E.dfs=[]:=by rfl):Q0a E S:=GH hf hnm hb N hN [] hd0 h
theorem ghs{E:Env}{S:Spec}{x:S.α}{r:S.ρ}{m N:Nat}{fn:Func}{c:Code}{extra:List Nat}{args:List AV}{H:List AObj}{out:Out}(em:(S.A x).2.length=m){M:Nat}{L:List (Nat×AV)}(h:AW E M c (retB E fn M extra H out) ⟨sl L,N,H⟩)(e1:S.A x=(args,H):=by rfl)(e2:S.R x r=out:=by rfl)(eM:H.length=M:=by rfl)(hn:decide (args.length≤N)=true:=by rfl)(hL:enum 0 args=L:=by rfl):decide ((S.A x).1.length≤N)=true∧AW E m c (retB E fn m extra (S.A x).2 (S.R x r)) ⟨sl (enum 0 (S.A x).1),N,(S.A x).2⟩:=GHs e1 e2 em eM hn hL h
theorem wq{Q P:Prop}(q:Q)(h:Q→P:=by intro hb;simp only[hb,cond_true,cond_false,J3l,Bool.not_true,Bool.not_false]<;>rfl):P:=h q
def NRM:=And.intro @Int.toNat_natCast (And.intro @Int.toNat_zero (And.intro @Nat.sub_zero (And.intro (@List.drop_zero:∀ {α:Type} {l:List α},List.drop 0 l=l) (@List.length_map:∀ {α β:Type} {l:List α} (f:α→β),(l.map f).length=l.length))))
def LNS:=And.intro (@List.length_cons:∀ {α:Type} {a:α} {l:List α},(a::l).length=l.length+1) (And.intro (@List.length_nil:∀ {α:Type},([]:List α).length=0) @Nat.zero_add)
theorem PVM:(∀ {α β:Type} (f:α→β) (a:α) (l:List α),List.map f (a::l)=f a::List.map f l)∧(∀ {α β:Type} (f:α→β),List.map f []=[]):=⟨fun _ _ _=>rfl,fun _=>rfl⟩
def PVE:=And.intro @PVM.1 (And.intro @PVM.2 (And.intro @Token.pv_eq (And.intro @X6r (And.intro @Word.pv_eq (And.intro @X6q (And.intro @Redir.pv_eq (And.intro @X6p (And.intro @Cmd.pv_eq (And.intro @Shape.pv_eq @Part.pv_eq)))))))))
def pvAg:List AV→Bool
 | []=>true
 | .pv _::r=>pvAg r
 | .agg vs::r=>vs.all (fun v=>match v with|.pv _=>true|.nils=>true|_=>false)&&pvAg r
 | _=>false
theorem Z7x{f:Nat→Nat}:∀ {az:List AV},pvAg az=true→az.map (AV.mapL f)=az
 | [],_=>rfl
 | .pv p::r,h=>by rw[List.map_cons,Z7x (az:=r) h];rfl
 | .agg vs::r,h=>by
   simp only[pvAg,Bool.and_eq_true]at h
   rw[List.map_cons,Z7x h.2]
   have e:vs.map (AV.mapL0 f)=vs:=by
    refine(List.map_congr_left fun v hv=>?_).trans (List.map_id vs)
    have:=List.all_eq_true.1 h.1 v hv
    cases v<;>first|rfl|cases this
   simp only[AV.mapL,e]
theorem ecI{O:Orc}{f:FuncId}{k:Nat}{az:List AV}{o o':AObj}{rs:List AV}(h:O.C f (.ref 0 k::az) [o]=some (rs,[o']))(ho:obj1 o=true)(hr:pvAg rs=true)(ho':obj1 o'=true)(H:List AObj)(i:Nat)(args:List AV)(hi:H[i]?=some o)(ha:Q3n args=some az):Q0v O H f (.ref i k::args)=some (Q1a rs,H.set i o'):=by
 obtain⟨g1,g2⟩:=Q5v (H:=H) (f:=idx [i]) ha
 have h1:Q1i H (.ref i k::args)=[i]:=by
  simp only[Q1i,toPV]
  rw[g1]
  rfl
 have hx:idx [i] i=some 0:=by simp[idx]
 have h4:Q0s H (idx [i]) (.ref i k::args)=some (.ref 0 k::az):=by
  simp only[Q0s,toPV,AV.ren,hx,Option.map_some,g2]
 have h5:Q0y H (idx [i]) [i]=some [o]:=by
  simp only[Q0y,hi,Option.bind_some,Z2z ho]
 have h6:Q1h H [i]=[]:=by
  simp only[Q1h,hi]
  cases o with
  | var cs=>simp only[Q6j («az»:=cs) ho,List.append_nil]
  | hrow=>cases ho
  | _=>rfl
 have h7:Q0n H [i] [o']=H.set i o':=by
  unfold Q0n
  rw[show List.drop [i].length [o']=[] from rfl,List.map_nil,List.append_nil]
  refine List.ext_getElem (by simp) fun j h1 h2=>?_
  rw[List.getElem_map,List.getElem_range,List.getElem_set]
  by_cases e:i=j
  ·subst e
   rw[hx]
   simp only[if_true]
   exact Z3a ho'
  have:idx [i] j=none:=by simp[idx,e]
  rw[this]
  have hj:j<H.length:=by simpa using h2
  simp[e,hj]
 unfold Q0v
 simp only[h1,h6,List.append_nil]
 have h2:Q4w [i]=[i]:=by simp[Q4w]
 simp only[h2,h4,h5,h,List.length_cons,List.length_nil,Nat.le_refl,if_true,h7,Z7x hr]
def gS:List Spec→Nat→Spec
 | S::_,0=>S
 | _::t,n+1=>gS t n
 | [],_=>⟨0,Unit,Unit,fun _=>none,fun _=>([],[]),fun _ _=>.ret [] [],fun _ _ _=>rfl⟩
theorem hd{E:Env}{L:List Spec}{S:Spec}{fn:Func}{c:Code}(g:AllG E L)(hf:E.P.funcs[S.f]?=some fn)(N:Nat)(h:∀ (O:Orc) (X:XO),Q1m E O→Q6c E X→O.pf=pfn→(∀ (i f:Nat) {S:Spec},Q0z L i f=some S→Kn O X f S)→∀ (x:S.α) (r:S.ρ),S.F x=some r→(decide ((S.A x).1.length≤N)=true∧AW E (S.A x).2.length c (retB E fn (S.A x).2.length [] (S.A x).2 (S.R x r)) ⟨sl (enum 0 (S.A x).1),N,(S.A x).2⟩))(hnm:(fn.name=="runtime.NumGoroutine")=false:=by rfl)(hb:fn.body=some c:=by rfl)(hN:fn.ntmps=N:=by rfl)(hd0:E.dfs=[]:=by rfl):Q0a E S:=by
 obtain⟨O,X,hS,hX,hpf,hk⟩:=orp g
 refine GH hf hnm hb N hN [] hd0 fun x r hr m em=>?_
 subst em
 exact h O X hS hX hpf hk x r hr
theorem gs{E:Env}{S:Spec}{x:S.α}{r:S.ρ}{N:Nat}{fn:Func}{c:Code}{args:List AV}{H:List AObj}{out:Out}{M:Nat}{L:List (Nat×AV)}(h:AW E M c (retB E fn M [] H out) ⟨sl L,N,H⟩)(e1:S.A x=(args,H):=by rfl)(e2:S.R x r=out:=by rfl)(eM:H.length=M:=by rfl)(hn:decide (args.length≤N)=true:=by rfl)(hL:enum 0 args=L:=by rfl):decide ((S.A x).1.length≤N)=true∧AW E (S.A x).2.length c (retB E fn (S.A x).2.length [] (S.A x).2 (S.R x r)) ⟨sl (enum 0 (S.A x).1),N,(S.A x).2⟩:=GHs e1 e2 rfl eM hn hL h
section
variable {E:Env}{O:Orc}{X:XO}{k:Nat}{Q:Exit→St→Prop}{id n:Nat}{t:Nat→AV}{H:List AObj}{ops:Array Oper}{y:Code}
theorem R(ks:List Nat){L:List (Nat×AV)}{H':List AObj}(hQ:AW E k y Q ⟨sl L,n,H'⟩)(hS:Q1m E O:=by exact hS)(hr:Q1x ks L H' (arun E O ops ops.toList ⟨t,n,H⟩):=by exact di):AW E k (.seq (.region id ops false) y) Q ⟨t,n,H⟩:=AW.seq (AW.rg hS ks hr hQ)
theorem G(ks:List Nat){L:List (Nat×AV)}{H':List AObj}(hQ:Q .normal ⟨sl L,n,H'⟩)(hS:Q1m E O:=by exact hS)(hr:Q1x ks L H' (arun E O ops ops.toList ⟨t,n,H⟩):=by exact di):AW E k (.region id ops false) Q ⟨t,n,H⟩:=AW.rg hS ks hr hQ
theorem Rf{ρ:Type}{a r:ρ}{σ:St}(h:some a=some r)(hq:some a=some r→Q .ret σ:=by intro h;cases h;exact fin):AW E k .ret Q σ:=AW.ret (hq h)
theorem Rt{ρ:Type}{a r:ρ}(h:some a=some r)(ks:List Nat){L:List (Nat×AV)}{H':List AObj}(hS:Q1m E O:=by exact hS)(hr:Q1x ks L H' (arun E O ops ops.toList ⟨t,n,H⟩):=by exact di)(hq:some a=some r→Q .ret ⟨sl L,n,H'⟩:=by intro h;cases h;exact fin):AW E k (.seq (.region id ops false) .ret) Q ⟨t,n,H⟩:=AW.seq (AW.rg hS ks hr (AW.ret (hq h)))
theorem Z{L:List Spec}(hk:∀ (i f:Nat) {S:Spec},Q0z L i f=some S→Kn O X f S)(i f:Nat)(x:(gS L i).α)(hpf:O.pf=pfn:=by exact hpf)(hb:pfn f=false:=by rfl)(hi:Q0z L i f=some (gS L i):=by rfl):∀a,(gS L i).F x=some a→O.pf f=false∧(∀args H rs H',(gS L i).A x=(args,H)→(gS L i).R x a=.ret rs H'→O.C f args H=some (rs,H'))∧∀args H v,(gS L i).A x=(args,H)→(gS L i).R x a=.boom v→X f args H=some v:=
 fun _ q=>⟨pft hpf f hb,fun _ _ _ _ e1 e2=>(hk i f hi).ret x q e1 e2,fun _ _ _ e1 e2=>(hk i f hi).boom x q e1 e2⟩
theorem Zt{L:List Spec}(hk:∀ (i f:Nat) {S:Spec},Q0z L i f=some S→Kn O X f S)(i f:Nat)(x:(gS L i).α)(hpf:O.pf=pfn:=by exact hpf)(hb:pfn f=true:=by rfl)(hi:Q0z L i f=some (gS L i):=by rfl):∀a,(gS L i).F x=some a→O.pf f=true∧(∀args H rs H',(gS L i).A x=(args,H)→(gS L i).R x a=.ret rs H'→O.C f args H=some (rs,H'))∧∀args H v,(gS L i).A x=(args,H)→(gS L i).R x a=.boom v→X f args H=some v:=
 fun _ q=>⟨pft hpf f hb,fun _ _ _ _ e1 e2=>(hk i f hi).ret x q e1 e2,fun _ _ _ e1 e2=>(hk i f hi).boom x q e1 e2⟩
theorem Ua1{ρ β:Type}{F:Option (ρ)}{g:ρ→Option β}{r:β}(h:F.bind g=some r)(ks:List Nat){P:ρ→Prop}(z:∀a,F=some a→P a){L:ρ→List (Nat×AV)}{H':ρ→List AObj}(hQ:∀a,g a=some r→Q .normal ⟨sl (L a),n,H' a⟩)(hS:Q1m E O:=by exact hS)(hr:∀a,P a→Q1x ks (L a) (H' a) (arun E O ops ops.toList ⟨t,n,H⟩):=by intro a p;obtain⟨p,q,-⟩:=p;replace q:=q _ _ _ _ rfl rfl;(try simp only[PVE]at q);(first|replace q:=an q (ecI q rfl rfl rfl)|replace q:=an q (ec3 q rfl rfl rfl rfl rfl rfl rfl)|replace q:=an q (ecp q rfl)|skip);exact di1 (an p q)):AW E k (.region id ops false) Q ⟨t,n,H⟩:=by
 obtain⟨a,e,h⟩:=obs h
 exact AW.rg hS ks (hr a (z _ e)) (hQ a h)
theorem Ua2{ρ ρ₂ β:Type}{F:Option (ρ×ρ₂)}{g:ρ×ρ₂→Option β}{r:β}(h:F.bind g=some r)(ks:List Nat){P:ρ×ρ₂→Prop}(z:∀a,F=some a→P a){L:ρ→ρ₂→List (Nat×AV)}{H':ρ→ρ₂→List AObj}(hQ:∀a b,g (a,b)=some r→Q .normal ⟨sl (L a b),n,H' a b⟩)(hS:Q1m E O:=by exact hS)(hr:∀a b,P (a,b)→Q1x ks (L a b) (H' a b) (arun E O ops ops.toList ⟨t,n,H⟩):=by intro a b p;obtain⟨p,q,-⟩:=p;replace q:=q _ _ _ _ rfl rfl;(try simp only[PVE]at q);(first|replace q:=an q (ecI q rfl rfl rfl)|replace q:=an q (ec3 q rfl rfl rfl rfl rfl rfl rfl)|replace q:=an q (ecp q rfl)|skip);exact di1 (an p q)):AW E k (.region id ops false) Q ⟨t,n,H⟩:=by
 obtain⟨⟨a,b⟩,e,h⟩:=obs h
 exact AW.rg hS ks (hr a b (z _ e)) (hQ a b h)
theorem Ua3{ρ ρ₂ ρ₃ β:Type}{F:Option (ρ×ρ₂×ρ₃)}{g:ρ×ρ₂×ρ₃→Option β}{r:β}(h:F.bind g=some r)(ks:List Nat){P:(ρ×ρ₂×ρ₃)→Prop}(z:∀a,F=some a→P a){L:ρ→ρ₂→ρ₃→List (Nat×AV)}{H':ρ→ρ₂→ρ₃→List AObj}(hQ:∀a b c,g (a,b,c)=some r→Q .normal ⟨sl (L a b c),n,H' a b c⟩)(hS:Q1m E O:=by exact hS)(hr:∀a b c,P (a,b,c)→Q1x ks (L a b c) (H' a b c) (arun E O ops ops.toList ⟨t,n,H⟩):=by intro a b c p;obtain⟨p,q,-⟩:=p;replace q:=q _ _ _ _ rfl rfl;(try simp only[PVE]at q);(first|replace q:=an q (ecI q rfl rfl rfl)|replace q:=an q (ec3 q rfl rfl rfl rfl rfl rfl rfl)|replace q:=an q (ecp q rfl)|skip);exact di1 (an p q)):AW E k (.region id ops false) Q ⟨t,n,H⟩:=by
 obtain⟨⟨a,b,c⟩,e,h⟩:=obs h
 exact AW.rg hS ks (hr a b c (z _ e)) (hQ a b c h)
theorem Ua4{ρ ρ₂ ρ₃ ρ₄ β:Type}{F:Option (ρ×ρ₂×ρ₃×ρ₄)}{g:ρ×ρ₂×ρ₃×ρ₄→Option β}{r:β}(h:F.bind g=some r)(ks:List Nat){P:(ρ×ρ₂×ρ₃×ρ₄)→Prop}(z:∀a,F=some a→P a){L:ρ→ρ₂→ρ₃→ρ₄→List (Nat×AV)}{H':ρ→ρ₂→ρ₃→ρ₄→List AObj}(hQ:∀a b c d,g (a,b,c,d)=some r→Q .normal ⟨sl (L a b c d),n,H' a b c d⟩)(hS:Q1m E O:=by exact hS)(hr:∀a b c d,P (a,b,c,d)→Q1x ks (L a b c d) (H' a b c d) (arun E O ops ops.toList ⟨t,n,H⟩):=by intro a b c d p;obtain⟨p,q,-⟩:=p;replace q:=q _ _ _ _ rfl rfl;(try simp only[PVE]at q);(first|replace q:=an q (ecI q rfl rfl rfl)|replace q:=an q (ec3 q rfl rfl rfl rfl rfl rfl rfl)|replace q:=an q (ecp q rfl)|skip);exact di1 (an p q)):AW E k (.region id ops false) Q ⟨t,n,H⟩:=by
 obtain⟨⟨a,b,c,d⟩,e,h⟩:=obs h
 exact AW.rg hS ks (hr a b c d (z _ e)) (hQ a b c d h)
theorem Ua5{ρ ρ₂ ρ₃ ρ₄ ρ₅ β:Type}{F:Option (ρ×ρ₂×ρ₃×ρ₄×ρ₅)}{g:ρ×ρ₂×ρ₃×ρ₄×ρ₅→Option β}{r:β}(h:F.bind g=some r)(ks:List Nat){P:(ρ×ρ₂×ρ₃×ρ₄×ρ₅)→Prop}(z:∀a,F=some a→P a){L:ρ→ρ₂→ρ₃→ρ₄→ρ₅→List (Nat×AV)}{H':ρ→ρ₂→ρ₃→ρ₄→ρ₅→List AObj}(hQ:∀a b c d u,g (a,b,c,d,u)=some r→Q .normal ⟨sl (L a b c d u),n,H' a b c d u⟩)(hS:Q1m E O:=by exact hS)(hr:∀a b c d u,P (a,b,c,d,u)→Q1x ks (L a b c d u) (H' a b c d u) (arun E O ops ops.toList ⟨t,n,H⟩):=by intro a b c d u p;obtain⟨p,q,-⟩:=p;replace q:=q _ _ _ _ rfl rfl;(try simp only[PVE]at q);(first|replace q:=an q (ecI q rfl rfl rfl)|replace q:=an q (ec3 q rfl rfl rfl rfl rfl rfl rfl)|replace q:=an q (ecp q rfl)|skip);exact di1 (an p q)):AW E k (.region id ops false) Q ⟨t,n,H⟩:=by
 obtain⟨⟨a,b,c,d,u⟩,e,h⟩:=obs h
 exact AW.rg hS ks (hr a b c d u (z _ e)) (hQ a b c d u h)
theorem Ua6{ρ ρ₂ ρ₃ ρ₄ ρ₅ ρ₆ β:Type}{F:Option (ρ×ρ₂×ρ₃×ρ₄×ρ₅×ρ₆)}{g:ρ×ρ₂×ρ₃×ρ₄×ρ₅×ρ₆→Option β}{r:β}(h:F.bind g=some r)(ks:List Nat){P:(ρ×ρ₂×ρ₃×ρ₄×ρ₅×ρ₆)→Prop}(z:∀a,F=some a→P a){L:ρ→ρ₂→ρ₃→ρ₄→ρ₅→ρ₆→List (Nat×AV)}{H':ρ→ρ₂→ρ₃→ρ₄→ρ₅→ρ₆→List AObj}(hQ:∀a b c d u v,g (a,b,c,d,u,v)=some r→Q .normal ⟨sl (L a b c d u v),n,H' a b c d u v⟩)(hS:Q1m E O:=by exact hS)(hr:∀a b c d u v,P (a,b,c,d,u,v)→Q1x ks (L a b c d u v) (H' a b c d u v) (arun E O ops ops.toList ⟨t,n,H⟩):=by intro a b c d u v p;obtain⟨p,q,-⟩:=p;replace q:=q _ _ _ _ rfl rfl;(try simp only[PVE]at q);(first|replace q:=an q (ecI q rfl rfl rfl)|replace q:=an q (ec3 q rfl rfl rfl rfl rfl rfl rfl)|replace q:=an q (ecp q rfl)|skip);exact di1 (an p q)):AW E k (.region id ops false) Q ⟨t,n,H⟩:=by
 obtain⟨⟨a,b,c,d,u,v⟩,e,h⟩:=obs h
 exact AW.rg hS ks (hr a b c d u v (z _ e)) (hQ a b c d u v h)
def BM(_:Nat)(P:Prop):Prop:=P
theorem regB(hS:Q1m E O)(hX:Q6c E X){i:Nat}{o:Oper}{post:List Oper}{v:Value}{H':List AObj}(hops:ops.toList.drop i=o::post)
 (hr:J2z X o v H' (arun E O ops (ops.toList.take i) ⟨t,n,H⟩)) (hQ:Q (.panic [{ v:=v,recovered:=false }]) ⟨fun _=>.any,n,H'⟩):BM i (AW E k (.region id ops false) Q ⟨t,n,H⟩):=AW.regS hS hX i hops hr hQ
theorem Xa1{ρ β:Type}{F:Option (Int ⊕ (ρ))}{g:ρ→Option (Int ⊕ β)}{r:Int ⊕ β}(h:Q0g F g=some r)(ks:List Nat){P:Int ⊕ (ρ)→Prop}(z:∀a,F=some a→P a)(i:Nat){L:ρ→List (Nat×AV)}{H':ρ→List AObj}(hQ:∀a,g a=some r→Q .normal ⟨sl (L a),n,H' a⟩)(hS:Q1m E O:=by exact hS)(hr:∀a,P (.inr a)→Q1x ks (L a) (H' a) (arun E O ops ops.toList ⟨t,n,H⟩):=by intro a p;obtain⟨p,q,-⟩:=p;replace q:=q _ _ _ _ rfl rfl;(try simp only[PVE]at q);(first|replace q:=an q (ecI q rfl rfl rfl)|replace q:=an q (ec3 q rfl rfl rfl rfl rfl rfl rfl)|replace q:=an q (ecp q rfl)|skip);exact di1 (an p q))(hb:∀m,P (.inl m)→r=.inl m→BM i (AW E k (.region id ops false) Q ⟨t,n,H⟩):=by intro m p e;subst e;obtain⟨-,-,q⟩:=p;replace q:=q _ _ _ rfl rfl;(try simp only[PVE]at q);replace q:=Q4x q rfl rfl;apply regB hS hX rfl;(· exact dp1 q);exact J2u rfl rfl rfl):AW E k (.region id ops false) Q ⟨t,n,H⟩:=by
 rcases Q0w h with⟨m,q,e⟩|⟨a,q,h⟩
 ·exact hb m (z _ q) e
 exact AW.rg hS ks (hr a (z _ q)) (hQ a h)
theorem Xa2{ρ ρ₂ β:Type}{F:Option (Int ⊕ (ρ×ρ₂))}{g:ρ×ρ₂→Option (Int ⊕ β)}{r:Int ⊕ β}(h:Q0g F g=some r)(ks:List Nat){P:Int ⊕ (ρ×ρ₂)→Prop}(z:∀a,F=some a→P a)(i:Nat){L:ρ→ρ₂→List (Nat×AV)}{H':ρ→ρ₂→List AObj}(hQ:∀a b,g (a,b)=some r→Q .normal ⟨sl (L a b),n,H' a b⟩)(hS:Q1m E O:=by exact hS)(hr:∀a b,P (.inr (a,b))→Q1x ks (L a b) (H' a b) (arun E O ops ops.toList ⟨t,n,H⟩):=by intro a b p;obtain⟨p,q,-⟩:=p;replace q:=q _ _ _ _ rfl rfl;(try simp only[PVE]at q);(first|replace q:=an q (ecI q rfl rfl rfl)|replace q:=an q (ec3 q rfl rfl rfl rfl rfl rfl rfl)|replace q:=an q (ecp q rfl)|skip);exact di1 (an p q))(hb:∀m,P (.inl m)→r=.inl m→BM i (AW E k (.region id ops false) Q ⟨t,n,H⟩):=by intro m p e;subst e;obtain⟨-,-,q⟩:=p;replace q:=q _ _ _ rfl rfl;(try simp only[PVE]at q);replace q:=Q4x q rfl rfl;apply regB hS hX rfl;(· exact dp1 q);exact J2u rfl rfl rfl):AW E k (.region id ops false) Q ⟨t,n,H⟩:=by
 rcases Q0w h with⟨m,q,e⟩|⟨⟨a,b⟩,q,h⟩
 ·exact hb m (z _ q) e
 exact AW.rg hS ks (hr a b (z _ q)) (hQ a b h)
theorem xb{α β:Type}{F:Option (Int ⊕ α)}{g:α→Option (Int ⊕ β)}{r:Int ⊕ β}(h:Q0g F g=some r){P:Int ⊕ α→Prop}(z:∀a,F=some a→P a)(i:Nat)(hQ:∀a,P (.inr a)→g a=some r→AW E k (.region id ops false) Q ⟨t,n,H⟩)(hS:Q1m E O:=by exact hS)(hX:Q6c E X:=by exact hX)(hb:∀m,P (.inl m)→r=.inl m→BM i (AW E k (.region id ops false) Q ⟨t,n,H⟩):=by intro m p e;subst e;obtain⟨-,-,q⟩:=p;replace q:=q _ _ _ rfl rfl;(try simp only[PVE]at q);replace q:=Q4x q rfl rfl;apply regB hS hX rfl;(· exact dp1 q);exact J2u rfl rfl rfl):AW E k (.region id ops false) Q ⟨t,n,H⟩:=by
 rcases Q0w h with⟨m,q,e⟩|⟨a,q,h⟩
 ·exact hb m (z _ q) e
 exact hQ a (z _ q) h
theorem oc{α β:Type}{o:Option α}{g:α→Option β}{b:β}{P:α→Prop}(h:o.bind g=some b)(k:∀a,o=some a→P a):∃a,P a∧g a=some b:=by
 obtain⟨a,e,h⟩:=obs h
 exact⟨a,k a e,h⟩
section
variable {f:Nat}{b:Bool}{α:List AV×List AObj}{ω:Out}{Y:Prop}{rs:List AV}{kk:Nat}{az:List AV}
theorem ca(p:O.pf f=b∧(∀args H rs H',α=(args,H)→ω=.ret rs H'→O.C f args H=some (rs,H'))∧Y){H':List AObj}(e1:α=(az,H):=by rfl)(e2:ω=.ret rs H':=by rfl):O.pf f=b∧O.C f az H=some (rs,H'):=⟨p.1,p.2.1 _ _ _ _ e1 e2⟩
theorem cb(p:O.pf f=b∧(∀args H rs H',α=(args,H)→ω=.ret rs H'→O.C f args H=some (rs,H'))∧Y){o o':AObj}(e1:α=(.ref 0 kk::az,[o]):=by rfl)(e2:ω=.ret rs [o']:=by rfl)(h1:obj1 o=true:=by rfl)(h2:Q8o rs=true:=by rfl)(h3:obj1 o'=true:=by rfl):O.pf f=b∧∀rest args,Q3n args=some az→Q0v O (o::rest) f (.ref 0 kk::args)=some (Q1a rs,o'::rest):=⟨p.1,ec1 (p.2.1 _ _ _ _ e1 e2) h1 h2 h3⟩
theorem cc(p:O.pf f=b∧(∀args H rs H',α=(args,H)→ω=.ret rs H'→O.C f args H=some (rs,H'))∧Y)(e1:α=(az,[]):=by rfl)(e2:ω=.ret rs []:=by rfl)(h2:Q8o rs=true:=by rfl):O.pf f=b∧∀H args,Q3n args=some az→Q0v O H f args=some (Q1a rs,H):=⟨p.1,ecp (p.2.1 _ _ _ _ e1 e2) h2⟩
theorem cd(p:O.pf f=b∧(∀args H rs H',α=(args,H)→ω=.ret rs H'→O.C f args H=some (rs,H'))∧Y){cs cs':List AV}{u v u' v':AObj}(e1:α=(.ref 0 kk::az,[.var cs,u,v]):=by rfl)(e2:ω=.ret rs [.var cs',u',v']:=by rfl)(h1:(in12 cs&&decide (Q3x cs=[1,2]))=true:=by rfl)(h2:obj1 u=true:=by rfl)(h3:obj1 v=true:=by rfl)(h4:Q8o rs=true:=by rfl)(h5:in12 cs'=true:=by rfl)(h6:obj1 u'=true:=by rfl)(h7:obj1 v'=true:=by rfl):O.pf f=b∧∀rest args,Q3n args=some az→Q0v O (.var cs::u::v::rest) f (.ref 0 kk::args)=some (Q1a rs,.var cs'::u'::v'::rest):=⟨p.1,ec3 (p.2.1 _ _ _ _ e1 e2) h1 h2 h3 h4 h5 h6 h7⟩
end
section
variable {β ρ:Type}{f:(β→Option ρ)→β→Option ρ}{r:ρ}{c:Code}{σ:St}
def NX(E:Env)(k:Nat)(f:(β→Option ρ)→β→Option ρ)(r:ρ)(I:β→St)(m:Nat)(σ:St):Prop:=∃b m',iter f m' b=some r∧Weak E k σ (I b)∧m'≤m
def NY(E:Env)(k:Nat)(f:(β→Option ρ)→β→Option ρ)(r:ρ)(I:β→St)(σ:St):Prop:=∃b m',iter f m' b=some r∧Weak E k σ (I b)
theorem lpr{Q:Exit→St→Prop}(I:β→St)(hr:∀b m,f (iter f m) b=some r→AW E k c (Q9v (NX E k f r I m) Q) (I b))(x:Nat×β)(p:iter f x.1 x.2=some r):AW E k c (Q9v (fun σ'=>∃a':Nat×β,iter f a'.1 a'.2=some r∧Weak E k σ' (I a'.2)∧a'.1<x.1) Q) (I x.2):=by
 obtain⟨m,hm,h⟩:=J9v p
 intro γ₀ H₀ Φ₀ w₀ a w hl hR
 refine wp_mono (hr x.2 m h γ₀ H₀ Φ₀ w₀ a w hl hR) fun e a' w' ⟨σ',hR',hQ⟩=>⟨σ',hR',?_⟩
 cases e with
 | normal=>
   obtain⟨b,m',h1,h2,h3⟩:=hQ
   exact⟨(m',b),h1,h2,by rw[hm];exact Nat.lt_succ_of_le h3⟩
 | _=>exact hQ
theorem Lp{N:Nat}{a:β}(h:iter f N a=some r)(I:β→St)(hr:∀b m,f (iter f m) b=some r→AW E k c (Q9v (NX E k f r I m) Q) (I b))(hw:Weak E k σ (I a):=by exact Weak.slots kp):AW E k (.loop c) Q σ:=
 AW.lp (fun x:Nat×β=>I x.2) (fun x=>iter f x.1 x.2=some r) (fun x=>x.1) (N,a) hw h (lpr I hr)
theorem Lq(r:ρ)(f:(β→Option ρ)→β→Option ρ)(I:β→St)(h1:AW E k c (Q9v (NY E k f r I) Q) σ)(hr:∀b m,f (iter f m) b=some r→AW E k c (Q9v (NX E k f r I m) Q) (I b)):AW E k (.loop c) Q σ:=by
 refine AW.lp1 (fun x:Nat×β=>I x.2) (fun x=>iter f x.1 x.2=some r) (fun x=>x.1) (fun γ₀ H₀ Φ₀ w₀ a w hl hR=>?_) (lpr I hr)
 refine wp_mono (h1 γ₀ H₀ Φ₀ w₀ a w hl hR) fun e a' w' ⟨σ',hR',hQ⟩=>⟨σ',hR',?_⟩
 cases e with
 | normal=>
   obtain⟨b,m',h1,h2⟩:=hQ
   exact⟨(m',b),h1,h2⟩
 | _=>exact hQ
theorem Wn{m:Nat}{t:Nat→AV}{L:List (Nat×AV)}{H H':List AObj}(e:H'.length=m)(hk:k≤m)(hL:Q7k t L)(hH:H.take m=H')(ho:H'.all (AObj.ltB m)=true)(hl:(L.all fun p=>p.2.ltB m)=true):Weak E k ⟨t,n,H⟩ ⟨sl L,n,H'⟩:=Weak.norm hk hL hH ho hl
theorem hq₂{P:Prop}(h:P:=by first|rfl|(simp only[List.length_cons,List.length_nil,Nat.zero_add,Nat.reduceAdd,List.take_succ_cons,List.take_zero,List.take_nil,List.map_set,List.length_set,List.map_cons,List.map_nil,TYS];done)):P:=h
theorem nx{I:β→St}{m m':Nat}{b:β}(h:iter f m' b=some r)(hw:Weak E k σ (I b):=by first|exact Weak.slots kp|exact Wn rfl (Nat.le_of_ble_eq_true rfl) kp hq₂ rfl rfl)(hm:m'≤m:=by exact Nat.le_refl _):NX E k f r I m σ:=⟨b,m',h,hw,hm⟩
theorem ny{I:β→St}{m':Nat}{b:β}(h:iter f m' b=some r)(hw:Weak E k σ (I b):=by first|exact Weak.slots kp|exact Wn rfl (Nat.le_of_ble_eq_true rfl) kp hq₂ rfl rfl):NY E k f r I σ:=⟨b,m',h,hw⟩
end
theorem iz{α:Type}{r:α}{b b':Bool}{u v:Option α}(h:(bif b then u else v)=some r){c:Operand}{x y:Code}{σ:St}(ht:u=some r→AW E k x Q σ)(hf:v=some r→AW E k y Q σ)(hc:ev σ.t c=.pv (.bool b'):=by rfl)(hb:b'=b:=by rfl):AW E k (.cond c x y) Q σ:=AW.iff_ h hc hb (fun _=>ht) (fun _=>hf)
theorem ik{α:Type}{r:α}{b b':Bool}{u v:Option α}(h:(bif b then u else v)=some r){c:Operand}{x:Code}{σ:St}(ht:u=some r→AW E k x Q σ)(hf:v=some r→Q .normal σ)(hc:ev σ.t c=.pv (.bool b'):=by rfl)(hb:b'=b:=by rfl):AW E k (.cond c x .skip) Q σ:=AW.iff_ h hc hb (fun _=>ht) fun _ q=>AW.skip (hf q)
theorem ex{ρ:Type}{a r:ρ}{i:Nat}{σ:St}(h:some a=some r)(hq:some a=some r→Q (.exit i) σ:=by intro h;cases h;exact fin):AW E k (.exit i) Q σ:=AW.exit (hq h)
end
section
open AW
theorem ce{O:Orc}{f:Nat}{b:Bool}{α:List AV×List AObj}{ω:Out}{Y:Prop}{rs:List AV}{kk:Nat}{az:List AV}(p:O.pf f=b∧(∀args H rs H',α=(args,H)→ω=.ret rs H'→O.C f args H=some (rs,H'))∧Y){o o':AObj}(e1:α=(.ref 0 kk::az,[o]):=by rfl)(e2:ω=.ret rs [o']:=by rfl)(h1:obj1 o=true:=by rfl)(h2:pvAg rs=true:=by rfl)(h3:obj1 o'=true:=by rfl):O.pf f=b∧∀ (H:List AObj) (i:Nat) (args:List AV),H[i]?=some o→Q3n args=some az→Q0v O H f (.ref i kk::args)=some (Q1a rs,H.set i o'):=⟨p.1,ecI (p.2.1 _ _ _ _ e1 e2) h1 h2 h3⟩
theorem bs{α:Type}{b:Bool}{u v:Option α}{r:α}(h:(bif b then u else v)=some r):(b=true∧u=some r)∨(b=false∧v=some r):=by
 cases b
 ·exact .inr ⟨rfl,h⟩
 exact .inl ⟨rfl,h⟩
theorem cF{E:Env}{k:Nat}{Q:Exit→St→Prop}{c:Operand}{x y:Code}{σ:St}(hQ:AW E k y Q σ)(hc:ev σ.t c=.pv (.bool false):=by rfl):AW E k (.cond c x y) Q σ:=cond (b:=false) hc (fun hb=>absurd hb (by decide)) (fun _=>hQ)
theorem jn{β:Type}{J:β→Prop}{E:Env}{k:Nat}{σ:St}{I:β→St}{b:β}(h:J b)(hw:Weak E k σ (I b):=by first|exact Weak.slots kp|exact Wn rfl (Nat.le_of_ble_eq_true rfl) kp hq₂ rfl rfl):∃b,J b∧Weak E k σ (I b):=⟨b,h,hw⟩
theorem ap{α β:Type}(f:α→PV){sz:Nat}{xs ys:List α}{g:List α→Option β}{r:β}(h:(appO sz xs ys).bind g=some r){P:List α→Prop}(z:∀v,(((xs.length+ys.length) * sz≤140737488355328)=True∧List.map f xs++List.map f ys=List.map f v∧v.length=xs.length+ys.length)→P v:=by intro v q;obtain⟨a,b,c⟩:=q;(try simp only[LNS,List.length_replicate,Nat.reduceAdd,Nat.reduceLeDiff,Nat.add_zero,Nat.reduceMul]at a);(try simp only[PVE,List.nil_append]at b);(try simp only[LNS]at c);first|exact And.intro a (And.intro b (show v.length=1 from c))|exact And.intro a (And.intro b (show v.length=2 from c))|(rw[←c]at a;exact And.intro a (And.intro b c.symm))):∃v,P v∧g v=some r:=by
 obtain⟨v,e,h⟩:=obs h
 exact⟨v,z v ⟨(X1j e).1,V1u f e,V1t e⟩,h⟩
section
variable {E:Env}{O:Orc}{X:XO}{k:Nat}
theorem oC{α:Type}(f:α→PV)(i c ty sz:Nat){n:Nat}{L:List (Nat×AV)}{H H':List AObj}{cs:List AV}{R:St→Prop}(q:R ⟨sl L,n,H'⟩)(hl:H[i]?=some (.var cs):=by rfl)(hj:cs[c]?=some .nils:=by rfl)(hz:0<sz:=by decide)
 (e:H.set i (.var (cs.set c (.vec H.length (List.length ([]:List α)))))++[.row ty sz (List.map f []) true]=H':=by simp only[List.set_cons_zero,List.set_cons_succ,List.length_cons,List.length_nil,List.cons_append,List.nil_append,Nat.reduceAdd,Nat.zero_add];rfl):∃σ',Weak E k ⟨sl L,n,H⟩ σ'∧R σ':=by
 subst e
 exact⟨_,Weak.ownC (σ:=⟨sl L,n,H⟩) i c ty sz hz hl hj,q⟩
theorem o2{σ:St}{R:St→Prop}(h:∃σ',Weak E k σ σ'∧∃σ'',Weak E k σ' σ''∧R σ''):∃σ',Weak E k σ σ'∧R σ':=by
 obtain⟨_,a,_,b,c⟩:=h
 exact⟨_,a.trans b,c⟩
def toC(H:List AObj):List AV→List AV→Prop
 | [],[]=>True
 | a::r,b::s=>(a=b∨∃p,b=.pv p∧toPV H a=some p)∧toC H r s
 | _,_=>False
theorem X3i{H:List AObj}{l:Nat}{cs ds:List AV}(hl:H[l]?=some (.var cs))(a:AV):toPV (H.set l (.var ds)) a=toPV H a:=by
 cases a with
 | vec j n=>
   simp only[toPV,List.getElem?_set]
   by_cases h:l=j
   ·subst h
    have:l<H.length:=(List.getElem?_eq_some_iff.1 hl).1
    simp only[this,hl,if_true]
   simp[h]
 | _=>rfl
theorem J7t{H:List AObj}{l:Nat}{cs ds:List AV}(hl:H[l]?=some (.var cs)):∀ {r s:List AV},toC H r s→toC (H.set l (.var ds)) r s
 | [],[],h=>h
 | a::r,b::s,⟨h,h'⟩=>⟨h.imp id fun⟨p,e,q⟩=>⟨p,e,by rw[X3i hl];exact q⟩,J7t hl h'⟩
theorem Weak.cells(l:Nat):∀ {cs cs' pre:List AV} {σ:St},σ.h[l]?=some (.var (pre++cs))→toC σ.h cs cs'→Weak E k σ ⟨σ.t,σ.n,σ.h.set l (.var (pre++cs'))⟩
 | [],[],pre,σ,hl,_=>by
   refine(Weak.refl σ).of_eq ?_
   have hlt:=(List.getElem?_eq_some_iff.1 hl).1
   have e:σ.h.set l (.var (pre++[]))=σ.h:=by
    refine List.ext_getElem (by simp) fun j h1 h2=>?_
    rw[List.getElem_set]
    split
    ·rename_i e
     subst e
     exact((List.getElem?_eq_some_iff.1 hl).2).symm
    rfl
   rw[e]
 | a::r,b::s,pre,σ,hl,⟨h,h'⟩=>by
   rcases h with rfl|⟨p,rfl,hp⟩
   ·have:=Weak.cells l (cs:=r) (cs':=s) (pre:=pre++[a]) (σ:=σ) (by rw[hl];simp) h'
    simpa using this
   have h1:=Weak.cellPV (E:=E) (k:=k) (σ:=σ) l pre.length hl (a:=a) (by simp) hp
   have e:(pre++a::r).set pre.length (.pv p)=pre++[.pv p]++r:=by simp
   rw[e]at h1
   have hlt:=(List.getElem?_eq_some_iff.1 hl).1
   have h2:=Weak.cells l (cs:=r) (cs':=s) (pre:=pre++[.pv p]) (σ:=⟨σ.t,σ.n,σ.h.set l (.var (pre++[.pv p]++r))⟩) (by simp[hlt]) (J7t hl h')
   refine h1.trans (h2.of_eq ?_)
   simp[List.set_set]
theorem Wc(l:Nat){n m:Nat}{t:Nat→AV}{L:List (Nat×AV)}{H H':List AObj}{cs cs':List AV}(hl:H[l]?=some (.var cs):=by rfl)(hl':H'[l]?=some (.var cs'):=by rfl)(hc:toC H cs cs':=by(repeat' first|exact trivial|refine⟨.inl rfl,?_⟩|refine⟨.inr ⟨_,rfl,(by first|rfl|simp only[toPV,List.getElem?_cons_zero,List.getElem?_cons_succ,List.length_map,if_true,List.map_nil,List.map_cons,TYS])⟩,?_⟩))
 (em:H'.length=m:=by rfl) (hk:k≤m:=by exact Nat.le_of_ble_eq_true rfl) (hL:Q7k t L:=by exact kp) (hH:(H.set l (.var cs')).take m=H':=by exact hq₂) (ho:H'.all (AObj.ltB m)=true:=by rfl) (hll:(L.all fun p=>p.2.ltB m)=true:=by rfl):Weak E k ⟨t,n,H⟩ ⟨sl L,n,H'⟩:=
 (Weak.cells (σ:=⟨t,n,H⟩) (pre:=[]) l hl hc).trans (Weak.norm hk hL hH ho hll)
def zn:Nat→Nat→List AV→List (Nat×AV)→List (Nat×AV)
 | _,0,_,L=>L
 | n,m+1,v::vs,L=>(n,v)::zn (n+1) m vs L
 | _,_+1,[],L=>L
def hs1:List AObj→List (Nat×AObj)→List AObj
 | h,[]=>h
 | h,p::r=>hs1 (h.set p.1 p.2) r
def hD:List AObj→List (List (Nat×AObj))→List (List AObj)
 | h,[]=>[h]
 | h,d::r=>h::hD (hs1 h d) r
theorem pk{ks:List Nat}{t:Nat→AV}{L:List (Nat×AV)}(h:pick ks t=L):Q7k t L:=h▸Q8i ks
end
section
variable {O:Orc}{X:XO}{k id n:Nat}{L0:List (Nat×AV)}{h:List AObj}{ops:Array Oper}{Q:Exit→St→Prop}
theorem dV(n0 m0:Nat)(eff:List Nat)(F:List (Nat×Nat))(val:List AV)(ds:List (List (Nat×AObj)))(ks:List Nat){Qf:Prop}(qf:Qf){LF L:List (Nat×AV)}{hs:List (List AObj)}{h':List AObj}(hQ:Q .normal ⟨sl L,n,h'⟩)(hS:Q1m env O:=by exact hS)
 (e1:zn n0 m0 val L0=LF:=by simp only[zn,Nat.reduceAdd];rfl) (e2:hD h ds=hs:=by simp only[hD,hs1,List.set_cons_zero,List.set_cons_succ];rfl)
 (hLF:Q3p ops val++L0=LF:=by kernel_rfl) (hok:J0d ops n eff F=true:=by kernel_rfl) (h0:hs.getD 0 []=h:=by kernel_rfl)
 (hf:Qf→Q3z env O ops (sl LF) n val hs eff F:=by intro q;(repeat'(first|exact Q3z.nil|refine Q3z.cons rfl rfl rfl ?_ ?_));all_goals first|exact dv1 q|exact dv)
 (hp:pick ks (sl LF)=L:=by simp -implicitDefEqProofs only[RUNS,Q1b,Nat.reduceAdd,Nat.reduceLeDiff,Nat.reduceSub,reduceIte,Nat.reduceEqDiff,Nat.reduceLT,reduceCtorEq,Nat.reduceMul,Nat.reduceBEq,Int.reduceEq,Int.reduceToNat,Int.toNat_zero,Nat.sub_zero,if_true,if_false,eq_self,ne_eq,Q3h,Q2m];rfl) (hh:hs.getD eff.length []=h':=by simp only[List.length_cons,List.length_nil,Nat.zero_add,Nat.reduceAdd,List.getD_cons_succ,List.getD_cons_zero];rfl):AW env k (.region id ops true) Q ⟨sl L0,n,h⟩:=
 dregV mixed hS eff F val hs LF hLF hok h0 (hf qf) L h' (pk hp) hh hQ
theorem dS(n0 m0 j0:Nat)(js:List Nat)(val:List AV)(H':List AObj){Qf Qx:Prop}(qf:Qf)(qx:Qx){LF:List (Nat×AV)}{o:Oper}{v:Value}(hS:Q1m env O:=by exact hS)(hX:Q6c env X:=by exact hX)(e1:zn n0 m0 val L0=LF:=by simp only[zn,Nat.reduceAdd];rfl)(hLF:Q3p ops val++L0=LF:=by kernel_rfl)(hok:J8f ops n j0 js=true:=by kernel_rfl)
 (ho:ops[j0]?=some o:=by rfl) (hf:Qf→Q3z env O ops (sl LF) n val [h] [] (js.map fun j=>(j,0)):=by intro q;(repeat'(first|exact Q3z.nil|refine Q3z.cons rfl rfl rfl ?_ ?_));all_goals first|exact dv1 q|exact dv)
 (hst:Qx→Q6b X o (sl LF) h v H':=by intro q;exact Q6b.call rfl rfl (by simp -implicitDefEqProofs only[RUNS,Q1b,Nat.reduceAdd,Nat.reduceLeDiff,Nat.reduceSub,reduceIte,Nat.reduceEqDiff,Nat.reduceLT,reduceCtorEq,Nat.reduceMul,Nat.reduceBEq,Int.reduceEq,Int.reduceToNat,Int.toNat_zero,Nat.sub_zero,if_true,if_false,eq_self,ne_eq,TYS,q]<;>rfl)) (hQ:Q (.panic [{ v:=v,recovered:=false }]) ⟨fun _=>.any,n,H'⟩:=by exact J2u rfl rfl rfl):AW env k (.region id ops true) Q ⟨sl L0,n,h⟩:=
 dregS mixed hS hX j0 js val LF hLF hok ho (hf qf) (hst qx) hQ
end
end
def un2{τ0 τ1 ρ:Type}(F:τ0→τ1→Option ρ):τ0×τ1→Option ρ:=fun(a0,a1)=>F a0 a1
def un3{τ0 τ1 τ2 ρ:Type}(F:τ0→τ1→τ2→Option ρ):τ0×τ1×τ2→Option ρ:=fun(a0,a1,a2)=>F a0 a1 a2
def un4{τ0 τ1 τ2 τ3 ρ:Type}(F:τ0→τ1→τ2→τ3→Option ρ):τ0×τ1×τ2×τ3→Option ρ:=fun(a0,a1,a2,a3)=>F a0 a1 a2 a3
def un5{τ0 τ1 τ2 τ3 τ4 ρ:Type}(F:τ0→τ1→τ2→τ3→τ4→Option ρ):τ0×τ1×τ2×τ3×τ4→Option ρ:=fun(a0,a1,a2,a3,a4)=>F a0 a1 a2 a3 a4
def un6{τ0 τ1 τ2 τ3 τ4 τ5 ρ:Type}(F:τ0→τ1→τ2→τ3→τ4→τ5→Option ρ):τ0×τ1×τ2×τ3×τ4×τ5→Option ρ:=fun(a0,a1,a2,a3,a4,a5)=>F a0 a1 a2 a3 a4 a5
def un7{τ0 τ1 τ2 τ3 τ4 τ5 τ6 ρ:Type}(F:τ0→τ1→τ2→τ3→τ4→τ5→τ6→Option ρ):τ0×τ1×τ2×τ3×τ4×τ5×τ6→Option ρ:=fun(a0,a1,a2,a3,a4,a5,a6)=>F a0 a1 a2 a3 a4 a5 a6
def un8{τ0 τ1 τ2 τ3 τ4 τ5 τ6 τ7 ρ:Type}(F:τ0→τ1→τ2→τ3→τ4→τ5→τ6→τ7→Option ρ):τ0×τ1×τ2×τ3×τ4×τ5×τ6×τ7→Option ρ:=fun(a0,a1,a2,a3,a4,a5,a6,a7)=>F a0 a1 a2 a3 a4 a5 a6 a7
def un9{τ0 τ1 τ2 τ3 τ4 τ5 τ6 τ7 τ8 ρ:Type}(F:τ0→τ1→τ2→τ3→τ4→τ5→τ6→τ7→τ8→Option ρ):τ0×τ1×τ2×τ3×τ4×τ5×τ6×τ7×τ8→Option ρ:=fun(a0,a1,a2,a3,a4,a5,a6,a7,a8)=>F a0 a1 a2 a3 a4 a5 a6 a7 a8
def un10{τ0 τ1 τ2 τ3 τ4 τ5 τ6 τ7 τ8 τ9 ρ:Type}(F:τ0→τ1→τ2→τ3→τ4→τ5→τ6→τ7→τ8→τ9→Option ρ):τ0×τ1×τ2×τ3×τ4×τ5×τ6×τ7×τ8×τ9→Option ρ:=fun(a0,a1,a2,a3,a4,a5,a6,a7,a8,a9)=>F a0 a1 a2 a3 a4 a5 a6 a7 a8 a9
section
variable {E:Env}{O:Orc}{X:XO}
theorem Z2{L:List Spec}(hk:∀ (i f:Nat) {S:Spec},Q0z L i f=some S→Kn O X f S)(i:Nat){τ0 τ1 ρ:Type}{f:FuncId}{F:τ0→τ1→Option ρ}{A R j}{a0 a1}(e:gS L i=⟨f,τ0×τ1,ρ,un2 F,A,R,j⟩)(hpf:O.pf=pfn:=by exact hpf)(hb:pfn f=false:=by rfl)(hi:Q0z L i f=some (gS L i):=by rfl):∀a,F a0 a1=some a→O.pf f=false∧(∀args H rs H',A (a0,a1)=(args,H)→R (a0,a1) a=.ret rs H'→O.C f args H=some (rs,H'))∧∀args H v,A (a0,a1)=(args,H)→R (a0,a1) a=.boom v→X f args H=some v:=by
 rw[e]at hi
 exact fun _ q=>⟨pft hpf f hb,fun _ _ _ _ e1 e2=>(hk i f hi).ret (a0,a1) q e1 e2,fun _ _ _ e1 e2=>(hk i f hi).boom (a0,a1) q e1 e2⟩
theorem Z3{L:List Spec}(hk:∀ (i f:Nat) {S:Spec},Q0z L i f=some S→Kn O X f S)(i:Nat){τ0 τ1 τ2 ρ:Type}{f:FuncId}{F:τ0→τ1→τ2→Option ρ}{A R j}{a0 a1 a2}(e:gS L i=⟨f,τ0×τ1×τ2,ρ,un3 F,A,R,j⟩)(hpf:O.pf=pfn:=by exact hpf)(hb:pfn f=false:=by rfl)(hi:Q0z L i f=some (gS L i):=by rfl):∀a,F a0 a1 a2=some a→O.pf f=false∧(∀args H rs H',A (a0,a1,a2)=(args,H)→R (a0,a1,a2) a=.ret rs H'→O.C f args H=some (rs,H'))∧∀args H v,A (a0,a1,a2)=(args,H)→R (a0,a1,a2) a=.boom v→X f args H=some v:=by
 rw[e]at hi
 exact fun _ q=>⟨pft hpf f hb,fun _ _ _ _ e1 e2=>(hk i f hi).ret (a0,a1,a2) q e1 e2,fun _ _ _ e1 e2=>(hk i f hi).boom (a0,a1,a2) q e1 e2⟩
theorem Z4{L:List Spec}(hk:∀ (i f:Nat) {S:Spec},Q0z L i f=some S→Kn O X f S)(i:Nat){τ0 τ1 τ2 τ3 ρ:Type}{f:FuncId}{F:τ0→τ1→τ2→τ3→Option ρ}{A R j}{a0 a1 a2 a3}(e:gS L i=⟨f,τ0×τ1×τ2×τ3,ρ,un4 F,A,R,j⟩)(hpf:O.pf=pfn:=by exact hpf)(hb:pfn f=false:=by rfl)(hi:Q0z L i f=some (gS L i):=by rfl):∀a,F a0 a1 a2 a3=some a→O.pf f=false∧(∀args H rs H',A (a0,a1,a2,a3)=(args,H)→R (a0,a1,a2,a3) a=.ret rs H'→O.C f args H=some (rs,H'))∧∀args H v,A (a0,a1,a2,a3)=(args,H)→R (a0,a1,a2,a3) a=.boom v→X f args H=some v:=by
 rw[e]at hi
 exact fun _ q=>⟨pft hpf f hb,fun _ _ _ _ e1 e2=>(hk i f hi).ret (a0,a1,a2,a3) q e1 e2,fun _ _ _ e1 e2=>(hk i f hi).boom (a0,a1,a2,a3) q e1 e2⟩
theorem Z5{L:List Spec}(hk:∀ (i f:Nat) {S:Spec},Q0z L i f=some S→Kn O X f S)(i:Nat){τ0 τ1 τ2 τ3 τ4 ρ:Type}{f:FuncId}{F:τ0→τ1→τ2→τ3→τ4→Option ρ}{A R j}{a0 a1 a2 a3 a4}(e:gS L i=⟨f,τ0×τ1×τ2×τ3×τ4,ρ,un5 F,A,R,j⟩)(hpf:O.pf=pfn:=by exact hpf)(hb:pfn f=false:=by rfl)(hi:Q0z L i f=some (gS L i):=by rfl):∀a,F a0 a1 a2 a3 a4=some a→O.pf f=false∧(∀args H rs H',A (a0,a1,a2,a3,a4)=(args,H)→R (a0,a1,a2,a3,a4) a=.ret rs H'→O.C f args H=some (rs,H'))∧∀args H v,A (a0,a1,a2,a3,a4)=(args,H)→R (a0,a1,a2,a3,a4) a=.boom v→X f args H=some v:=by
 rw[e]at hi
 exact fun _ q=>⟨pft hpf f hb,fun _ _ _ _ e1 e2=>(hk i f hi).ret (a0,a1,a2,a3,a4) q e1 e2,fun _ _ _ e1 e2=>(hk i f hi).boom (a0,a1,a2,a3,a4) q e1 e2⟩
theorem Z6{L:List Spec}(hk:∀ (i f:Nat) {S:Spec},Q0z L i f=some S→Kn O X f S)(i:Nat){τ0 τ1 τ2 τ3 τ4 τ5 ρ:Type}{f:FuncId}{F:τ0→τ1→τ2→τ3→τ4→τ5→Option ρ}{A R j}{a0 a1 a2 a3 a4 a5}(e:gS L i=⟨f,τ0×τ1×τ2×τ3×τ4×τ5,ρ,un6 F,A,R,j⟩)(hpf:O.pf=pfn:=by exact hpf)(hb:pfn f=false:=by rfl)(hi:Q0z L i f=some (gS L i):=by rfl):∀a,F a0 a1 a2 a3 a4 a5=some a→O.pf f=false∧(∀args H rs H',A (a0,a1,a2,a3,a4,a5)=(args,H)→R (a0,a1,a2,a3,a4,a5) a=.ret rs H'→O.C f args H=some (rs,H'))∧∀args H v,A (a0,a1,a2,a3,a4,a5)=(args,H)→R (a0,a1,a2,a3,a4,a5) a=.boom v→X f args H=some v:=by
 rw[e]at hi
 exact fun _ q=>⟨pft hpf f hb,fun _ _ _ _ e1 e2=>(hk i f hi).ret (a0,a1,a2,a3,a4,a5) q e1 e2,fun _ _ _ e1 e2=>(hk i f hi).boom (a0,a1,a2,a3,a4,a5) q e1 e2⟩
theorem Z7{L:List Spec}(hk:∀ (i f:Nat) {S:Spec},Q0z L i f=some S→Kn O X f S)(i:Nat){τ0 τ1 τ2 τ3 τ4 τ5 τ6 ρ:Type}{f:FuncId}{F:τ0→τ1→τ2→τ3→τ4→τ5→τ6→Option ρ}{A R j}{a0 a1 a2 a3 a4 a5 a6}(e:gS L i=⟨f,τ0×τ1×τ2×τ3×τ4×τ5×τ6,ρ,un7 F,A,R,j⟩)(hpf:O.pf=pfn:=by exact hpf)(hb:pfn f=false:=by rfl)(hi:Q0z L i f=some (gS L i):=by rfl):∀a,F a0 a1 a2 a3 a4 a5 a6=some a→O.pf f=false∧(∀args H rs H',A (a0,a1,a2,a3,a4,a5,a6)=(args,H)→R (a0,a1,a2,a3,a4,a5,a6) a=.ret rs H'→O.C f args H=some (rs,H'))∧∀args H v,A (a0,a1,a2,a3,a4,a5,a6)=(args,H)→R (a0,a1,a2,a3,a4,a5,a6) a=.boom v→X f args H=some v:=by
 rw[e]at hi
 exact fun _ q=>⟨pft hpf f hb,fun _ _ _ _ e1 e2=>(hk i f hi).ret (a0,a1,a2,a3,a4,a5,a6) q e1 e2,fun _ _ _ e1 e2=>(hk i f hi).boom (a0,a1,a2,a3,a4,a5,a6) q e1 e2⟩
theorem Z8{L:List Spec}(hk:∀ (i f:Nat) {S:Spec},Q0z L i f=some S→Kn O X f S)(i:Nat){τ0 τ1 τ2 τ3 τ4 τ5 τ6 τ7 ρ:Type}{f:FuncId}{F:τ0→τ1→τ2→τ3→τ4→τ5→τ6→τ7→Option ρ}{A R j}{a0 a1 a2 a3 a4 a5 a6 a7}(e:gS L i=⟨f,τ0×τ1×τ2×τ3×τ4×τ5×τ6×τ7,ρ,un8 F,A,R,j⟩)(hpf:O.pf=pfn:=by exact hpf)(hb:pfn f=false:=by rfl)(hi:Q0z L i f=some (gS L i):=by rfl):∀a,F a0 a1 a2 a3 a4 a5 a6 a7=some a→O.pf f=false∧(∀args H rs H',A (a0,a1,a2,a3,a4,a5,a6,a7)=(args,H)→R (a0,a1,a2,a3,a4,a5,a6,a7) a=.ret rs H'→O.C f args H=some (rs,H'))∧∀args H v,A (a0,a1,a2,a3,a4,a5,a6,a7)=(args,H)→R (a0,a1,a2,a3,a4,a5,a6,a7) a=.boom v→X f args H=some v:=by
 rw[e]at hi
 exact fun _ q=>⟨pft hpf f hb,fun _ _ _ _ e1 e2=>(hk i f hi).ret (a0,a1,a2,a3,a4,a5,a6,a7) q e1 e2,fun _ _ _ e1 e2=>(hk i f hi).boom (a0,a1,a2,a3,a4,a5,a6,a7) q e1 e2⟩
theorem Z9{L:List Spec}(hk:∀ (i f:Nat) {S:Spec},Q0z L i f=some S→Kn O X f S)(i:Nat){τ0 τ1 τ2 τ3 τ4 τ5 τ6 τ7 τ8 ρ:Type}{f:FuncId}{F:τ0→τ1→τ2→τ3→τ4→τ5→τ6→τ7→τ8→Option ρ}{A R j}{a0 a1 a2 a3 a4 a5 a6 a7 a8}(e:gS L i=⟨f,τ0×τ1×τ2×τ3×τ4×τ5×τ6×τ7×τ8,ρ,un9 F,A,R,j⟩)(hpf:O.pf=pfn:=by exact hpf)(hb:pfn f=false:=by rfl)(hi:Q0z L i f=some (gS L i):=by rfl):∀a,F a0 a1 a2 a3 a4 a5 a6 a7 a8=some a→O.pf f=false∧(∀args H rs H',A (a0,a1,a2,a3,a4,a5,a6,a7,a8)=(args,H)→R (a0,a1,a2,a3,a4,a5,a6,a7,a8) a=.ret rs H'→O.C f args H=some (rs,H'))∧∀args H v,A (a0,a1,a2,a3,a4,a5,a6,a7,a8)=(args,H)→R (a0,a1,a2,a3,a4,a5,a6,a7,a8) a=.boom v→X f args H=some v:=by
 rw[e]at hi
 exact fun _ q=>⟨pft hpf f hb,fun _ _ _ _ e1 e2=>(hk i f hi).ret (a0,a1,a2,a3,a4,a5,a6,a7,a8) q e1 e2,fun _ _ _ e1 e2=>(hk i f hi).boom (a0,a1,a2,a3,a4,a5,a6,a7,a8) q e1 e2⟩
theorem Zt2{L:List Spec}(hk:∀ (i f:Nat) {S:Spec},Q0z L i f=some S→Kn O X f S)(i:Nat){τ0 τ1 ρ:Type}{f:FuncId}{F:τ0→τ1→Option ρ}{A R j}{a0 a1}(e:gS L i=⟨f,τ0×τ1,ρ,un2 F,A,R,j⟩)(hpf:O.pf=pfn:=by exact hpf)(hb:pfn f=true:=by rfl)(hi:Q0z L i f=some (gS L i):=by rfl):∀a,F a0 a1=some a→O.pf f=true∧(∀args H rs H',A (a0,a1)=(args,H)→R (a0,a1) a=.ret rs H'→O.C f args H=some (rs,H'))∧∀args H v,A (a0,a1)=(args,H)→R (a0,a1) a=.boom v→X f args H=some v:=by
 rw[e]at hi
 exact fun _ q=>⟨pft hpf f hb,fun _ _ _ _ e1 e2=>(hk i f hi).ret (a0,a1) q e1 e2,fun _ _ _ e1 e2=>(hk i f hi).boom (a0,a1) q e1 e2⟩
theorem Zt3{L:List Spec}(hk:∀ (i f:Nat) {S:Spec},Q0z L i f=some S→Kn O X f S)(i:Nat){τ0 τ1 τ2 ρ:Type}{f:FuncId}{F:τ0→τ1→τ2→Option ρ}{A R j}{a0 a1 a2}(e:gS L i=⟨f,τ0×τ1×τ2,ρ,un3 F,A,R,j⟩)(hpf:O.pf=pfn:=by exact hpf)(hb:pfn f=true:=by rfl)(hi:Q0z L i f=some (gS L i):=by rfl):∀a,F a0 a1 a2=some a→O.pf f=true∧(∀args H rs H',A (a0,a1,a2)=(args,H)→R (a0,a1,a2) a=.ret rs H'→O.C f args H=some (rs,H'))∧∀args H v,A (a0,a1,a2)=(args,H)→R (a0,a1,a2) a=.boom v→X f args H=some v:=by
 rw[e]at hi
 exact fun _ q=>⟨pft hpf f hb,fun _ _ _ _ e1 e2=>(hk i f hi).ret (a0,a1,a2) q e1 e2,fun _ _ _ e1 e2=>(hk i f hi).boom (a0,a1,a2) q e1 e2⟩
end
end Go.Abs.U48
