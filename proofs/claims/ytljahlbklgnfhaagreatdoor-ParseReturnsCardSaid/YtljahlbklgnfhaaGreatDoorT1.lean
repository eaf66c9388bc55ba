import Derived.Test.YtljahlbklgnfhaaGreatDoorA35
import Derived.Test.YtljahlbklgnfhaaGreatDoorA45
import Derived.Test.YtljahlbklgnfhaaGreatDoorA50
import Derived.Test.YtljahlbklgnfhaaGreatDoorA61
import Derived.Test.YtljahlbklgnfhaaGreatDoorA63
import Derived.Lib.ItoaNum
import Derived.Test.YtljahlbklgnfhaaGreatDoorProg
set_option linter.unusedVariables false
set_option linter.unusedSimpArgs false
set_option linter.defProp false
namespace Go.Abs.U48
open Go.RowKit Go.Proofs
open Go.Proofs.Tryz
abbrev Str:=List UInt8
def tab:List (Nat×TI):=[
 (2,⟨.int .i64,1,8,some [.int .i64 0]⟩),
 (3,⟨.int .i64,1,8,some [.int .i64 0]⟩),
 (4,⟨.bool,1,1,some [.bool false]⟩),
 (5,⟨.int .u8,1,1,some [.int .u8 0]⟩),
 (6,⟨.int .u8,1,1,some [.int .u8 0]⟩),
 (7,⟨.strct [(0,1),(1,1),(2,1),(3,1)],4,24,some [.int .i64 0,.int .i64 0,.bool false,.int .u8 0]⟩),
 (8,⟨.strct [(0,1),(1,1),(2,1),(3,1)],4,24,some [.int .i64 0,.int .i64 0,.bool false,.int .u8 0]⟩),
 (9,⟨.str,1,16,some [.str []]⟩),
 (10,⟨.str,1,16,some [.str []]⟩),
 (11,⟨.str,1,16,some [.str []]⟩),
 (12,⟨.int .u64,1,8,some [.int .u64 0]⟩),
 (13,⟨.strct [(0,1),(1,1)],2,24,some [.str [],.int .u64 0]⟩),
 (14,⟨.strct [(0,1),(1,1)],2,24,some [.str [],.int .u64 0]⟩),
 (15,⟨.ptr 228,1,8,some [.nilp]⟩),
 (16,⟨.ptr 231,1,8,some [.nilp]⟩),
 (17,⟨.ptr 238,1,8,some [.nilp]⟩),
 (18,⟨.strct [(0,1)],1,8,some [.nilp]⟩),
 (19,⟨.strct [(0,1)],1,8,some [.nilp]⟩),
 (20,⟨.iface,1,16,some [.nil]⟩),
 (21,⟨.int .i32,1,4,some [.int .i32 0]⟩),
 (23,⟨.slice 36,1,24,some [.slice []]⟩),
 (24,⟨.int .i64,1,8,some [.int .i64 0]⟩),
 (33,⟨.slice 49,1,24,some [.slice []]⟩),
 (34,⟨.slice 51,1,24,some [.slice []]⟩),
 (35,⟨.strct [(0,1),(1,1),(2,1),(3,1),(4,1),(5,1)],6,104,some [.int .i64 0,.int .i64 0,.str [],.slice [],.slice [],.slice []]⟩),
 (36,⟨.strct [(0,1),(1,1),(2,1),(3,1),(4,1),(5,1)],6,104,some [.int .i64 0,.int .i64 0,.str [],.slice [],.slice [],.slice []]⟩),
 (37,⟨.slice 87,1,24,some [.slice []]⟩),
 (41,⟨.ptr 45,1,8,some [.nilp]⟩),
 (42,⟨.slice 9,1,24,some [.slice []]⟩),
 (44,⟨.strct [(0,1),(1,1),(2,1),(3,1),(4,1),(5,1)],6,88,some [.str [],.slice [],.slice [],.int .i64 0,.int .i64 0,.int .i64 0]⟩),
 (45,⟨.strct [(0,1),(1,1),(2,1),(3,1),(4,1),(5,1)],6,88,some [.str [],.slice [],.slice [],.int .i64 0,.int .i64 0,.int .i64 0]⟩),
 (48,⟨.strct [(0,1),(1,1),(2,1),(3,1),(4,1)],5,88,some [.int .i64 0,.str [],.str [],.slice [],.slice []]⟩),
 (49,⟨.strct [(0,1),(1,1),(2,1),(3,1),(4,1)],5,88,some [.int .i64 0,.str [],.str [],.slice [],.slice []]⟩),
 (50,⟨.strct [(0,1),(1,1),(2,1),(3,5),(8,1)],9,120,some [.int .i64 0,.int .i64 0,.int .i64 0,.int .i64 0,.str [],.str [],.slice [],.slice [],.bool false]⟩),
 (51,⟨.strct [(0,1),(1,1),(2,1),(3,5),(8,1)],9,120,some [.int .i64 0,.int .i64 0,.int .i64 0,.int .i64 0,.str [],.str [],.slice [],.slice [],.bool false]⟩),
 (57,⟨.ptr 60,1,8,some [.nilp]⟩),
 (58,⟨.slice 5,1,24,some [.slice []]⟩),
 (59,⟨.strct [(0,1),(1,1)],2,32,some [.nilp,.slice []]⟩),
 (60,⟨.strct [(0,1),(1,1)],2,32,some [.nilp,.slice []]⟩),
 (61,⟨.strct [(0,2),(2,1)],3,56,some [.nilp,.slice [],.slice []]⟩),
 (62,⟨.strct [(0,2),(2,1)],3,56,some [.nilp,.slice [],.slice []]⟩),
 (65,⟨.ptr 67,1,8,some [.nilp]⟩),
 (66,⟨.strct [(0,1),(1,1)],2,32,some [.str [],.str []]⟩),
 (67,⟨.strct [(0,1),(1,1)],2,32,some [.str [],.str []]⟩),
 (68,⟨.ptr 70,1,8,some [.nilp]⟩),
 (69,⟨.strct [(0,1),(1,1),(2,1),(3,1),(4,1),(5,1),(6,1)],7,96,some [.str [],.int .i64 0,.slice [],.slice [],.int .i64 0,.int .i64 0,.int .i64 0]⟩),
 (70,⟨.strct [(0,1),(1,1),(2,1),(3,1),(4,1),(5,1),(6,1)],7,96,some [.str [],.int .i64 0,.slice [],.slice [],.int .i64 0,.int .i64 0,.int .i64 0]⟩),
 (73,⟨.int .i64,1,8,some [.int .i64 0]⟩),
 (75,⟨.ptr 77,1,8,some [.nilp]⟩),
 (76,⟨.strct [(0,1),(1,1),(2,1),(3,1)],4,72,some [.str [],.slice [],.slice [],.int .i64 0]⟩),
 (77,⟨.strct [(0,1),(1,1),(2,1),(3,1)],4,72,some [.str [],.slice [],.slice [],.int .i64 0]⟩),
 (82,⟨.strct [(0,1),(1,1),(2,1),(3,1),(4,1),(5,1),(6,1)],7,88,some [.int .i64 0,.slice [],.int .i64 0,.bool false,.slice [],.int .i64 0,.int .i64 0]⟩),
 (83,⟨.strct [(0,1),(1,1),(2,1),(3,1),(4,1),(5,1),(6,1)],7,88,some [.int .i64 0,.slice [],.int .i64 0,.bool false,.slice [],.int .i64 0,.int .i64 0]⟩),
 (86,⟨.strct [(0,1),(1,1),(2,1),(3,1)],4,48,some [.int .i64 0,.int .i64 0,.str [],.str []]⟩),
 (87,⟨.strct [(0,1),(1,1),(2,1),(3,1)],4,48,some [.int .i64 0,.int .i64 0,.str [],.str []]⟩),
 (94,⟨.ptr 62,1,8,some [.nilp]⟩),
 (96,⟨.ptr 5,1,8,some [.nilp]⟩),
 (104,⟨.slice 3,1,24,some [.slice []]⟩),
 (113,⟨.strct [(0,1),(1,1),(2,1),(3,1)],4,48,some [.str [],.str [],.int .i64 0,.bool false]⟩),
 (114,⟨.strct [(0,1),(1,1),(2,1),(3,1)],4,48,some [.str [],.str [],.int .i64 0,.bool false]⟩),
 (117,⟨.strct [(0,1),(1,1),(2,1)],3,3,some [.bool false,.bool false,.bool false]⟩),
 (118,⟨.strct [(0,1),(1,1),(2,1)],3,3,some [.bool false,.bool false,.bool false]⟩),
 (132,⟨.iface,1,16,some [.nil]⟩),
 (133,⟨.iface,1,16,some [.nil]⟩),
 (152,⟨.int .u64,1,8,some [.int .u64 0]⟩),
 (166,⟨.int .u32,1,4,some [.int .u32 0]⟩),
 (169,⟨.int .u64,1,8,some [.int .u64 0]⟩),
 (190,⟨.int .i64,1,8,some [.int .i64 0]⟩),
 (193,⟨.ptr 208,1,8,some [.nilp]⟩),
 (207,⟨.strct [(0,1),(1,1),(2,1)],3,48,some [.str [],.str [],.nil]⟩),
 (208,⟨.strct [(0,1),(1,1),(2,1)],3,48,some [.str [],.str [],.nil]⟩),
 (217,⟨.strct [(0,1),(1,1)],2,2,some [.int .u8 0,.int .u8 0]⟩),
 (218,⟨.strct [(0,1),(1,1)],2,2,some [.int .u8 0,.int .u8 0]⟩),
 (221,⟨.ptr 223,1,8,some [.nilp]⟩),
 (222,⟨.strct [(0,1)],1,16,some [.str []]⟩),
 (223,⟨.strct [(0,1)],1,16,some [.str []]⟩),
 (227,⟨.strct [(0,1),(1,1),(2,1),(3,1)],4,40,some [.nilp,.nilp,.nilp,.str []]⟩),
 (228,⟨.strct [(0,1),(1,1),(2,1),(3,1)],4,40,some [.nilp,.nilp,.nilp,.str []]⟩),
 (230,⟨.strct [(0,0)],0,0,some []⟩),
 (231,⟨.strct [(0,0)],0,0,some []⟩),
 (232,⟨.int .u8,1,1,some [.int .u8 0]⟩),
 (233,⟨.int .u8,1,1,some [.int .u8 0]⟩),
 (235,⟨.int .i32,1,4,some [.int .i32 0]⟩),
 (236,⟨.int .i32,1,4,some [.int .i32 0]⟩),
 (237,⟨.strct [(0,1),(1,1),(2,1),(3,1),(4,1),(5,1),(6,1),(7,1),(8,1),(9,1),(10,1)],11,48,none⟩),
 (238,⟨.strct [(0,1),(1,1),(2,1),(3,1),(4,1),(5,1),(6,1),(7,1),(8,1),(9,1),(10,1)],11,48,none⟩)]
def Y0z:List (TypeId×List EK):=[]
theorem K4v:Y0z.all (λp=>J3q prog p.1 p.2)=true:=by kernel_rfl
theorem V4m:tab.all (λp=>X0o prog p.1 p.2)=true:=by kernel_rfl
noncomputable def env:Env where
 P:=prog
 T:=tabT tab
 hT:=λt ti h=>X3r V4m t ti h
 gN:=4
 GI:=λw=>(∃m,w.cell? ⟨0,0,none⟩=some (.int .i64 m))/\(∃ev,w.cell? ⟨1,0,none⟩=some ev/\(ev=.nilIface\/∃e i,ev=.iface e i))/\(∃ev,w.cell? ⟨2,0,none⟩=some ev/\(ev=.nilIface\/∃e i,ev=.iface e i))/\Lib.TabIs prog w "internal/strconv.uint64pow10" .u64 Lib.pow10Tab
 hG:=by
  intro w w' ⟨⟨m,j⟩,⟨l,o,p⟩,⟨q,u,x⟩,d⟩ h
  have c:∀b,b<4->w'.cell? ⟨b,0,none⟩=w.cell? ⟨b,0,none⟩:=λb hb=>World.cell?_of_block (a:=⟨b,0,none⟩) (h b hb)
  exact⟨⟨m,(c 0 (by decide)).trans j⟩,⟨l,(c 1 (by decide)).trans o,p⟩,⟨q,(c 2 (by decide)).trans u,x⟩,J7k (g:=3) (by kernel_rfl) d (h 3 (by decide))⟩
 bT:=some 60
 be:=5
 eqT:=X9o Y0z
 pT:=some 62
 pe1:=5
 pe2:=51
 psz:=9
 hpT:=by
  intro t d w
  cases d
  kernel_rfl
 ownT:=λt=>([36,37,70,83]:List Nat).contains t
 hEq:=λt ks h=>J6m K4v h
 hbT:=by
  intro t d w
  cases d
  kernel_rfl
theorem K7o:env.pT=some 62:=rfl
theorem V1x:env.pe1=5:=rfl
theorem V1w:env.pe2=51:=rfl
theorem V1v:env.psz=9:=rfl
theorem X8u:J8n env.T 4=true:=rfl
theorem T_3:env.T 3=some ⟨.int .i64,1,8,some [.int .i64 0]⟩:=rfl
theorem T_4:env.T 4=some ⟨.bool,1,1,some [.bool false]⟩:=rfl
theorem T_5:env.T 5=some ⟨.int .u8,1,1,some [.int .u8 0]⟩:=rfl
theorem T_9:env.T 9=some ⟨.str,1,16,some [.str []]⟩:=rfl
theorem T_23:env.T 23=some ⟨.slice 36,1,24,some [.slice []]⟩:=rfl
theorem T_24:env.T 24=some ⟨.int .i64,1,8,some [.int .i64 0]⟩:=rfl
theorem T_33:env.T 33=some ⟨.slice 49,1,24,some [.slice []]⟩:=rfl
theorem T_34:env.T 34=some ⟨.slice 51,1,24,some [.slice []]⟩:=rfl
theorem T_36:env.T 36=some ⟨.strct [(0,1),(1,1),(2,1),(3,1),(4,1),(5,1)],6,104,some [.int .i64 0,.int .i64 0,.str [],.slice [],.slice [],.slice []]⟩:=rfl
theorem T_37:env.T 37=some ⟨.slice 87,1,24,some [.slice []]⟩:=rfl
theorem T_42:env.T 42=some ⟨.slice 9,1,24,some [.slice []]⟩:=rfl
theorem T_49:env.T 49=some ⟨.strct [(0,1),(1,1),(2,1),(3,1),(4,1)],5,88,some [.int .i64 0,.str [],.str [],.slice [],.slice []]⟩:=rfl
theorem T_51:env.T 51=some ⟨.strct [(0,1),(1,1),(2,1),(3,5),(8,1)],9,120,some [.int .i64 0,.int .i64 0,.int .i64 0,.int .i64 0,.str [],.str [],.slice [],.slice [],.bool false]⟩:=rfl
theorem T_57:env.T 57=some ⟨.ptr 60,1,8,some [.nilp]⟩:=rfl
theorem T_58:env.T 58=some ⟨.slice 5,1,24,some [.slice []]⟩:=rfl
theorem T_60:env.T 60=some ⟨.strct [(0,1),(1,1)],2,32,some [.nilp,.slice []]⟩:=rfl
theorem T_62:env.T 62=some ⟨.strct [(0,2),(2,1)],3,56,some [.nilp,.slice [],.slice []]⟩:=rfl
theorem T_68:env.T 68=some ⟨.ptr 70,1,8,some [.nilp]⟩:=rfl
theorem T_70:env.T 70=some ⟨.strct [(0,1),(1,1),(2,1),(3,1),(4,1),(5,1),(6,1)],7,96,some [.str [],.int .i64 0,.slice [],.slice [],.int .i64 0,.int .i64 0,.int .i64 0]⟩:=rfl
theorem T_75:env.T 75=some ⟨.ptr 77,1,8,some [.nilp]⟩:=rfl
theorem T_77:env.T 77=some ⟨.strct [(0,1),(1,1),(2,1),(3,1)],4,72,some [.str [],.slice [],.slice [],.int .i64 0]⟩:=rfl
theorem T_87:env.T 87=some ⟨.strct [(0,1),(1,1),(2,1),(3,1)],4,48,some [.int .i64 0,.int .i64 0,.str [],.str []]⟩:=rfl
theorem T_94:env.T 94=some ⟨.ptr 62,1,8,some [.nilp]⟩:=rfl
theorem T_96:env.T 96=some ⟨.ptr 5,1,8,some [.nilp]⟩:=rfl
theorem Y8w:env.T 104=some ⟨.slice 3,1,24,some [.slice []]⟩:=rfl
theorem Y8v:env.T 118=some ⟨.strct [(0,1),(1,1),(2,1)],3,3,some [.bool false,.bool false,.bool false]⟩:=rfl
theorem K1d:env.T 133=some ⟨.iface,1,16,some [.nil]⟩:=rfl
theorem V0j:env.ownT 23=false:=rfl
theorem V0i:env.ownT 33=false:=rfl
theorem V0h:env.ownT 34=false:=rfl
theorem V0g:env.ownT 36=true:=rfl
theorem V0f:env.ownT 37=true:=rfl
theorem V0e:env.ownT 42=false:=rfl
theorem V0d:env.ownT 49=false:=rfl
theorem V0c:env.ownT 51=false:=rfl
theorem V0b:env.ownT 70=true:=rfl
theorem V0a:env.ownT 87=false:=rfl
theorem K3q:env.ownT 104=false:=rfl
theorem K3p:env.ownT 118=false:=rfl
theorem Y8a:env.eqT 3=none:=rfl
theorem Y7z:env.eqT 4=none:=rfl
theorem Y7y:env.eqT 5=none:=rfl
theorem Y7x:env.eqT 9=none:=rfl
theorem Y1a:env.eqT 24=none:=rfl
theorem V1u:env.eqT 133=none:=rfl
theorem V5s(p:PV):qmkI env 73 (.pv p)=some (.ifc 73 p):=by
 simp only[qmkI]
 rw[show env.P.underlying 73=_ from underlying73]
theorem K9x(cs:List PV):Z0s env 87 0 (.pv (.agg cs))=(Q5o ⟨.int .i64,1,8,some [.int .i64 0]⟩ (cs.drop 0)).map .pv:=by
 have h:fieldAt env 87 0=some (0,3):=by kernel_rfl
 unfold Z0s
 rw[h]
 simp only[Z7j,T_3]
theorem K9w(cs:List PV):Z0s env 87 1 (.pv (.agg cs))=(Q5o ⟨.int .i64,1,8,some [.int .i64 0]⟩ (cs.drop 1)).map .pv:=by
 have h:fieldAt env 87 1=some (1,3):=by kernel_rfl
 unfold Z0s
 rw[h]
 simp only[Z7j,T_3]
theorem K9v(cs:List PV):Z0s env 87 2 (.pv (.agg cs))=(Q5o ⟨.str,1,16,some [.str []]⟩ (cs.drop 2)).map .pv:=by
 have h:fieldAt env 87 2=some (2,9):=by kernel_rfl
 unfold Z0s
 rw[h]
 simp only[Z7j,T_9]
abbrev syn(n:Int):Value:=.iface 73 (.int .i64 n)
theorem mixed:env.P.follows .mixedOrders=true:=by kernel_rfl
theorem X9q:env.bT=some 60:=rfl
theorem Y8b:env.P=prog:=rfl
theorem fnq{f:FuncId}{fn:Func}(h:prog.funcs[f]?=some fn):env.P.funcs[f]?=some fn:=h
def V1t:=fnq func36
def K4u:=fnq func49
def K4t:=fnq func85
mutual
structure Cmd where
 kind_:Int
 at_:Int
 name_:Str
 words_:List Word
 redirs_:List Redir
 kids_:List Cmd
structure Word where
 kind_:Int
 text_:Str
 quoted_:Str
 words_:List Word
 cmd_:List Cmd
structure Redir where
 kind_:Int
 fd_:Int
 from_:Int
 word_:Word
 raw_:Bool
end
instance:Inhabited Cmd:=⟨⟨0,0,[],[],[],[]⟩⟩
instance:Inhabited Word:=⟨⟨0,[],[],[],[]⟩⟩
instance:Inhabited Redir:=⟨⟨0,0,0,default,false⟩⟩
mutual
def Cmd.cells:Cmd->List PV
 | ⟨a,d,e,g,i,j⟩=>[.int .i64 a,.int .i64 d,.str e,.slice (Word.pvs g),.slice (Redir.pvs i),.slice (Cmd.pvs j)]
def Cmd.pvs:List Cmd->List PV
 | []=>[]
 | x::r=>PV.agg x.cells::Cmd.pvs r
def Word.cells:Word->List PV
 | ⟨a,d,e,g,i⟩=>[.int .i64 a,.str d,.str e,.slice (Word.pvs g),.slice (Cmd.pvs i)]
def Word.pvs:List Word->List PV
 | []=>[]
 | x::r=>PV.agg x.cells::Word.pvs r
def Redir.cells:Redir->List PV
 | ⟨a,d,e,⟨g,i,j,l,m⟩,o⟩=>[.int .i64 a,.int .i64 d,.int .i64 e,.int .i64 g,.str i,.str j,.slice (Word.pvs l),.slice (Cmd.pvs m),.bool o]
def Redir.pvs:List Redir->List PV
 | []=>[]
 | x::r=>PV.agg x.cells::Redir.pvs r
end
def Cmd.pv(x:Cmd):PV:=.agg x.cells
theorem Cmd.pvs_eq:∀xs:List Cmd,Cmd.pvs xs=xs.map Cmd.pv
 | []=>by rw[Cmd.pvs];rfl
 | x::r=>by rw[Cmd.pvs,Cmd.pvs_eq r];rfl
def Word.pv(x:Word):PV:=.agg x.cells
theorem Word.pvs_eq:∀xs:List Word,Word.pvs xs=xs.map Word.pv
 | []=>by rw[Word.pvs];rfl
 | x::r=>by rw[Word.pvs,Word.pvs_eq r];rfl
def Redir.pv(x:Redir):PV:=.agg x.cells
theorem Redir.pvs_eq:∀xs:List Redir,Redir.pvs xs=xs.map Redir.pv
 | []=>by rw[Redir.pvs];rfl
 | x::r=>by rw[Redir.pvs,Redir.pvs_eq r];rfl
theorem Cmd.pv_eq(x:Cmd):x.pv=.agg [.int .i64 x.kind_,.int .i64 x.at_,.str x.name_,.slice (List.map Word.pv x.words_),.slice (List.map Redir.pv x.redirs_),.slice (List.map Cmd.pv x.kids_)]:=by
 obtain⟨a,d,e,g,i,j⟩:=x
 simp only[Cmd.pv,Cmd.cells,Cmd.pvs_eq,Word.pvs_eq,Redir.pvs_eq]
theorem Word.pv_eq(x:Word):x.pv=.agg [.int .i64 x.kind_,.str x.text_,.str x.quoted_,.slice (List.map Word.pv x.words_),.slice (List.map Cmd.pv x.cmd_)]:=by
 obtain⟨a,d,e,g,i⟩:=x
 simp only[Word.pv,Word.cells,Cmd.pvs_eq,Word.pvs_eq,Redir.pvs_eq]
theorem Redir.pv_eq(x:Redir):x.pv=.agg [.int .i64 x.kind_,.int .i64 x.fd_,.int .i64 x.from_,.int .i64 x.word_.kind_,.str x.word_.text_,.str x.word_.quoted_,.slice (List.map Word.pv x.word_.words_),.slice (List.map Cmd.pv x.word_.cmd_),.bool x.raw_]:=by
 obtain⟨a,d,e,⟨g,i,j,l,m⟩,o⟩:=x
 simp only[Redir.pv,Redir.cells,Cmd.pvs_eq,Word.pvs_eq,Redir.pvs_eq]
mutual
theorem Cmd.cinj:∀ (x y:Cmd),x.cells=y.cells->x=y
 | ⟨l,m,o,p,q,u⟩,⟨z,A,C,D,F,I⟩,h=>by
  simp only[Cmd.cells,G4i,PV.slice.injEq,G7c]at h
  obtain⟨a,d,e,g,i,j⟩:=h
  cases(Q3e a)
  cases(Q3e d)
  cases(Q8m e)
  cases Word.injs _ _ g
  cases Redir.injs _ _ i
  cases Cmd.injs _ _ j
  rfl
theorem Cmd.injs:∀ (x y:List Cmd),Cmd.pvs x=Cmd.pvs y->x=y
 | [],[],_=>rfl
 | [],y::ys,h=>by simp[Cmd.pvs]at h
 | x::xs,[],h=>by simp[Cmd.pvs]at h
 | x::xs,y::ys,h=>by
  simp only[Cmd.pvs,G4i,PV.agg.injEq]at h
  rw[Cmd.cinj x y h.1,Cmd.injs xs ys h.2]
theorem Word.cinj:∀ (x y:Word),x.cells=y.cells->x=y
 | ⟨j,l,m,o,p⟩,⟨q,u,z,A,C⟩,h=>by
  simp only[Word.cells,G4i,PV.slice.injEq,G7c]at h
  obtain⟨a,d,e,g,i⟩:=h
  cases(Q3e a)
  cases(Q8m d)
  cases(Q8m e)
  cases Word.injs _ _ g
  cases Cmd.injs _ _ i
  rfl
theorem Word.injs:∀ (x y:List Word),Word.pvs x=Word.pvs y->x=y
 | [],[],_=>rfl
 | [],y::ys,h=>by simp[Word.pvs]at h
 | x::xs,[],h=>by simp[Word.pvs]at h
 | x::xs,y::ys,h=>by
  simp only[Word.pvs,G4i,PV.agg.injEq]at h
  rw[Word.cinj x y h.1,Word.injs xs ys h.2]
theorem Redir.cinj:∀ (x y:Redir),x.cells=y.cells->x=y
 | ⟨p,q,u,⟨z,A,C,D,F⟩,I⟩,⟨J,K,L,⟨M,N,P,S,b8⟩,T⟩,h=>by
  simp only[Redir.cells,G4i,PV.slice.injEq,G7c]at h
  obtain⟨a,d,e,g,i,j,l,m,o⟩:=h
  cases(Q3e a)
  cases(Q3e d)
  cases(Q3e e)
  cases(Q3e g)
  cases(Q8m i)
  cases(Q8m j)
  cases Word.injs _ _ l
  cases Cmd.injs _ _ m
  cases(Z3b o)
  rfl
theorem Redir.injs:∀ (x y:List Redir),Redir.pvs x=Redir.pvs y->x=y
 | [],[],_=>rfl
 | [],y::ys,h=>by simp[Redir.pvs]at h
 | x::xs,[],h=>by simp[Redir.pvs]at h
 | x::xs,y::ys,h=>by
  simp only[Redir.pvs,G4i,PV.agg.injEq]at h
  rw[Redir.cinj x y h.1,Redir.injs xs ys h.2]
end
theorem Cmd.inj{x y:Cmd}(h:x.pv=y.pv):x=y:=Cmd.cinj x y (PV.agg.inj h)
theorem Cmd.injA{x y:Cmd}(h:PV.agg [.int .i64 (x.kind_),.int .i64 (x.at_),.str (x.name_),.slice (List.map Word.pv (x.words_)),.slice (List.map Redir.pv (x.redirs_)),.slice (List.map Cmd.pv (x.kids_))]=PV.agg [.int .i64 (y.kind_),.int .i64 (y.at_),.str (y.name_),.slice (List.map Word.pv (y.words_)),.slice (List.map Redir.pv (y.redirs_)),.slice (List.map Cmd.pv (y.kids_))]):x=y:=Cmd.inj ((Cmd.pv_eq x).trans (h.trans (Cmd.pv_eq y).symm))
theorem Cmd.all(xs:List Cmd):((xs.map Cmd.pv).all λz=>z.cells.length==6)=true:=by
 simp[Cmd.pv_eq,PV.cells]
theorem Word.inj{x y:Word}(h:x.pv=y.pv):x=y:=Word.cinj x y (PV.agg.inj h)
theorem Word.injA{x y:Word}(h:PV.agg [.int .i64 (x.kind_),.str (x.text_),.str (x.quoted_),.slice (List.map Word.pv (x.words_)),.slice (List.map Cmd.pv (x.cmd_))]=PV.agg [.int .i64 (y.kind_),.str (y.text_),.str (y.quoted_),.slice (List.map Word.pv (y.words_)),.slice (List.map Cmd.pv (y.cmd_))]):x=y:=Word.inj ((Word.pv_eq x).trans (h.trans (Word.pv_eq y).symm))
theorem Word.all(xs:List Word):((xs.map Word.pv).all λz=>z.cells.length==5)=true:=by
 simp[Word.pv_eq,PV.cells]
theorem Redir.inj{x y:Redir}(h:x.pv=y.pv):x=y:=Redir.cinj x y (PV.agg.inj h)
theorem Redir.injA{x y:Redir}(h:PV.agg [.int .i64 (x.kind_),.int .i64 (x.fd_),.int .i64 (x.from_),.int .i64 (x.word_.kind_),.str (x.word_.text_),.str (x.word_.quoted_),.slice (List.map Word.pv (x.word_.words_)),.slice (List.map Cmd.pv (x.word_.cmd_)),.bool (x.raw_)]=PV.agg [.int .i64 (y.kind_),.int .i64 (y.fd_),.int .i64 (y.from_),.int .i64 (y.word_.kind_),.str (y.word_.text_),.str (y.word_.quoted_),.slice (List.map Word.pv (y.word_.words_)),.slice (List.map Cmd.pv (y.word_.cmd_)),.bool (y.raw_)]):x=y:=Redir.inj ((Redir.pv_eq x).trans (h.trans (Redir.pv_eq y).symm))
theorem Redir.all(xs:List Redir):((xs.map Redir.pv).all λz=>z.cells.length==9)=true:=by
 simp[Redir.pv_eq,PV.cells]
def P23(xs:List Cmd):PV:=.slice (xs.map Cmd.pv)
theorem K8e(xs:List Cmd):P23 xs=.slice (xs.map Cmd.pv):=rfl
theorem V2t{x y:List Cmd}(h:P23 x=P23 y):x=y:=Q7i (λ_ _=>Cmd.inj) (PV.slice.inj h)
def P33(xs:List Word):PV:=.slice (xs.map Word.pv)
theorem K8d(xs:List Word):P33 xs=.slice (xs.map Word.pv):=rfl
theorem V2s{x y:List Word}(h:P33 x=P33 y):x=y:=Q7i (λ_ _=>Word.inj) (PV.slice.inj h)
def P34(xs:List Redir):PV:=.slice (xs.map Redir.pv)
theorem K8c(xs:List Redir):P34 xs=.slice (xs.map Redir.pv):=rfl
theorem V2r{x y:List Redir}(h:P34 x=P34 y):x=y:=Q7i (λ_ _=>Redir.inj) (PV.slice.inj h)
structure Token where
 kind_:Int
 at_:Int
 text_:Str
 quoted_:Str
instance:Inhabited Token:=⟨⟨0,0,[],[]⟩⟩
def Token.pv(x:Token):PV:=.agg [.int .i64 x.kind_,.int .i64 x.at_,.str x.text_,.str x.quoted_]
theorem Token.pv_eq(x:Token):x.pv=.agg [.int .i64 x.kind_,.int .i64 x.at_,.str x.text_,.str x.quoted_]:=rfl
theorem Token.inj{x y:Token}(h:x.pv=y.pv):x=y:=by
 obtain⟨i,j,l,m⟩:=x
 obtain⟨o,p,q,u⟩:=y
 simp only[Token.pv,PV.agg.injEq,G4i,G7c]at h
 obtain⟨a,d,e,g⟩:=h
 cases(Q3e a)
 cases(Q3e d)
 cases(Q8m e)
 cases(Q8m g)
 rfl
theorem Token.all(xs:List Token):((xs.map Token.pv).all λz=>z.cells.length==4)=true:=by
 simp[Token.pv,PV.cells]
structure Shape where
 name_:Bool
 words_:Bool
 redirs_:Bool
instance:Inhabited Shape:=⟨⟨false,false,false⟩⟩
def Shape.pv(x:Shape):PV:=.agg [.bool x.name_,.bool x.words_,.bool x.redirs_]
theorem Shape.pv_eq(x:Shape):x.pv=.agg [.bool x.name_,.bool x.words_,.bool x.redirs_]:=rfl
theorem Shape.inj{x y:Shape}(h:x.pv=y.pv):x=y:=by
 obtain⟨g,i,j⟩:=x
 obtain⟨l,m,o⟩:=y
 simp only[Shape.pv,PV.agg.injEq,G4i,G7c]at h
 obtain⟨a,d,e⟩:=h
 cases(Z3b a)
 cases(Z3b d)
 cases(Z3b e)
 rfl
def pfn:FuncId->Bool:=λf=>[7,8,10,12,13,14,15,16,17,19,20,21,25,26,28,29,30,31,32,33,34,40,42,50,51,61,62,63,64,65,72,74,83,86,98,99,100,101,108,109,117,118,119,124,125,126,128,129,130,133,134,143,144,145,146,147,148,149,150,155,156,157,161,166,169,171,172,182,183,184,185,186,187,188,189,199,207,208,209,210,211,212,213,214,216,233,234,236,237,238,260,261,263,264,275,276,277,278,287,288].contains f
def TYS:=aj X9q (
 aj K7o (
 aj V1x (
 aj V1w (
 aj V1v (
 aj X8u (
 aj T_3 (
 aj T_4 (
 aj T_5 (
 aj T_9 (
 aj T_23 (
 aj T_24 (
 aj T_33 (
 aj T_34 (
 aj T_36 (
 aj T_37 (
 aj T_42 (
 aj T_49 (
 aj T_51 (
 aj T_57 (
 aj T_58 (
 aj T_60 (
 aj T_62 (
 aj T_68 (
 aj T_70 (
 aj T_75 (
 aj T_77 (
 aj T_87 (
 aj T_94 (
 aj Y8w (
 aj Y8v (
 aj K1d (
 aj V0j (
 aj V0i (
 aj V0h (
 aj V0g (
 aj V0f (
 aj V0e (
 aj V0d (
 aj V0c (
 aj V0b (
 aj V0a (
 aj K3q (
 aj K3p (
 aj Y8a (
 aj Y7z (
 aj Y7y (
 aj Y7x (
 aj Y1a (
 aj V1u (
 aj @V5s (
 aj @K9x (
 aj @K9w (
 aj @K9v (
 aj @K9g (
 aj @V1a (
 aj @K5i (
 aj @K8e (
 aj @Word.pv_eq (
 aj @K8d (
 aj @Redir.pv_eq (
 aj @K8c (
 aj @Cmd.pv_eq (
 aj @Token.pv_eq (
 aj @Shape.pv_eq (
 aj @Cmd.all (
 aj @Word.all (
 aj @Redir.all (
 @Token.all))))))))))))))))))))))))))))))))))))))))))))))))))))))))))))))))))))
theorem K9e(x y:List UInt8):(PV.str x=PV.str y)=(x=y):=PV.str.injEq x y
theorem V0x(k:IntKind)(x y:Int):(PV.int k x=PV.int k y)=(x=y):=propext ⟨Q3e,λh=>by rw[h]⟩
theorem K5h(x y:Bool):(PV.bool x=PV.bool y)=(x=y):=PV.bool.injEq x y
theorem X6w(x y:List PV):(PV.slice x=PV.slice y)=(x=y):=PV.slice.injEq x y
theorem Q2f{α:Type}{f:α->PV}(a:∀x y,f x=f y->x=y)(x y:List α):(List.map f x=List.map f y)=(x=y):=propext ⟨Q7i a,λh=>by rw[h]⟩
theorem Word.iff(x y:Word):(PV.agg [.int .i64 (x.kind_),.str (x.text_),.str (x.quoted_),.slice (List.map Word.pv (x.words_)),.slice (List.map Cmd.pv (x.cmd_))]=PV.agg [.int .i64 (y.kind_),.str (y.text_),.str (y.quoted_),.slice (List.map Word.pv (y.words_)),.slice (List.map Cmd.pv (y.cmd_))])=(x=y):=propext ⟨Word.injA (x:=x) (y:=y),λh=>by rw[h]⟩
theorem Redir.iff(x y:Redir):(PV.agg [.int .i64 (x.kind_),.int .i64 (x.fd_),.int .i64 (x.from_),.int .i64 (x.word_.kind_),.str (x.word_.text_),.str (x.word_.quoted_),.slice (List.map Word.pv (x.word_.words_)),.slice (List.map Cmd.pv (x.word_.cmd_)),.bool (x.raw_)]=PV.agg [.int .i64 (y.kind_),.int .i64 (y.fd_),.int .i64 (y.from_),.int .i64 (y.word_.kind_),.str (y.word_.text_),.str (y.word_.quoted_),.slice (List.map Word.pv (y.word_.words_)),.slice (List.map Cmd.pv (y.word_.cmd_)),.bool (y.raw_)])=(x=y):=propext ⟨Redir.injA (x:=x) (y:=y),λh=>by rw[h]⟩
theorem Cmd.iff(x y:Cmd):(PV.agg [.int .i64 (x.kind_),.int .i64 (x.at_),.str (x.name_),.slice (List.map Word.pv (x.words_)),.slice (List.map Redir.pv (x.redirs_)),.slice (List.map Cmd.pv (x.kids_))]=PV.agg [.int .i64 (y.kind_),.int .i64 (y.at_),.str (y.name_),.slice (List.map Word.pv (y.words_)),.slice (List.map Redir.pv (y.redirs_)),.slice (List.map Cmd.pv (y.kids_))])=(x=y):=propext ⟨Cmd.injA (x:=x) (y:=y),λh=>by rw[h]⟩
theorem Token.iff(x y:Token):(PV.agg [.int .i64 (x.kind_),.int .i64 (x.at_),.str (x.text_),.str (x.quoted_)]=PV.agg [.int .i64 (y.kind_),.int .i64 (y.at_),.str (y.text_),.str (y.quoted_)])=(x=y):=propext ⟨Token.inj (x:=x) (y:=y),λh=>by rw[h]⟩
theorem Shape.iff(x y:Shape):(PV.agg [.bool (x.name_),.bool (x.words_),.bool (x.redirs_)]=PV.agg [.bool (y.name_),.bool (y.words_),.bool (y.redirs_)])=(x=y):=propext ⟨Shape.inj (x:=x) (y:=y),λh=>by rw[h]⟩
theorem Y5t(x y):(List.map PV.str x=List.map PV.str y)=(x=y):=Q2f (λ_ _=>Q8m) x y
theorem Y5s(x y):(List.map PV.bool x=List.map PV.bool y)=(x=y):=Q2f (λ_ _=>Z3b) x y
theorem Y5r(x y):(List.map (PV.int .i32) x=List.map (PV.int .i32) y)=(x=y):=Q2f (λ_ _=>Q3e) x y
theorem Y5q(x y):(List.map (PV.int .i64) x=List.map (PV.int .i64) y)=(x=y):=Q2f (λ_ _=>Q3e) x y
theorem Y5p(x y):(List.map (PV.int .u32) x=List.map (PV.int .u32) y)=(x=y):=Q2f (λ_ _=>Q3e) x y
theorem Y5o(x y):(List.map (PV.int .u64) x=List.map (PV.int .u64) y)=(x=y):=Q2f (λ_ _=>Q3e) x y
theorem Y5n(x y):(List.map (PV.int .u8) x=List.map (PV.int .u8) y)=(x=y):=Q2f (λ_ _=>Q3e) x y
theorem Y5m(x y):(List.map P23 x=List.map P23 y)=(x=y):=Q2f (λ_ _=>V2t) x y
theorem Y5l(x y):(List.map Word.pv x=List.map Word.pv y)=(x=y):=Q2f (λ_ _=>Word.inj) x y
theorem Y5k(x y):(List.map P33 x=List.map P33 y)=(x=y):=Q2f (λ_ _=>V2s) x y
theorem V5x(x y):(List.map Redir.pv x=List.map Redir.pv y)=(x=y):=Q2f (λ_ _=>Redir.inj) x y
theorem V5w(x y):(List.map P34 x=List.map P34 y)=(x=y):=Q2f (λ_ _=>V2r) x y
theorem V5v(x y):(List.map Cmd.pv x=List.map Cmd.pv y)=(x=y):=Q2f (λ_ _=>Cmd.inj) x y
theorem V5u(x y):(List.map Token.pv x=List.map Token.pv y)=(x=y):=Q2f (λ_ _=>Token.inj) x y
theorem V5t(x y):(List.map Shape.pv x=List.map Shape.pv y)=(x=y):=Q2f (λ_ _=>Shape.inj) x y
def INJS:=aj @K9e (
 aj @V0x (
 aj @K5h (
 aj @X6w (
 aj @Word.iff (
 aj @Redir.iff (
 aj @Cmd.iff (
 aj @Token.iff (
 aj @Shape.iff (
 aj @Y5t (
 aj @Y5s (
 aj @Y5r (
 aj @Y5q (
 aj @Y5p (
 aj @Y5o (
 aj @Y5n (
 aj @Y5m (
 aj @Y5l (
 aj @Y5k (
 aj @V5x (
 aj @V5w (
 aj @V5v (
 aj @V5u (
 @V5t)))))))))))))))))))))))
def mkS(f:Nat){α ρ:Type}(F:α->Option ρ)(A:α->List AV×List AObj)(R:α->ρ->Out)(h:∀x y,A x=A y->x=y:=by
 (first|(intro _ _ _;rfl)|((try simp only[Prod.forall]);intros;rename_i h;simp only[G1k,G4i,AV.pv.injEq,AV.agg.injEq,AV.vec.injEq,AV.full.injEq,AObj.bld.injEq,AObj.prn.injEq,AObj.row.injEq,AObj.var.injEq,INJS,G7c,true_and,and_assoc]at h;first|exact h|(simp only[h,and_self,G1k,G7c,true_and])|(obtain⟨_,h⟩:=h;exact h)))):Spec:=⟨f,α,ρ,F,A,R,h⟩
theorem bq1:(true==false)=false:=rfl
theorem bq2:(false==true)=false:=rfl
theorem an{a b:Prop}(x:a)(y:b):a/\b:=⟨x,y⟩
theorem obs{α β:Type}{o:Option α}{f:α->Option β}{b:β}(h:o.bind f=some b):∃a,o=some a/\f a=some b:=G1x.1 h
theorem fin{E:Env}{a:List ResultVar}{m:Nat}{e:List Nat}{σ:St}{x:Option (List AV×List AObj)}(h:J1j E a m e σ=x\/Z3y E a m σ=x:=by first|exact .inl rfl|exact .inr rfl|(simp only[G2i,G3q,G3y,TYS];first|exact .inl rfl|exact .inr rfl)|(refine Or.inl ?_;simp[J1j,Q8r,Q1a,toPV,Q1c,sl,AObj.ren,renL,AV.ren,idx,List.range_succ,TYS];done)|(refine Or.inr ?_;simp[Z3y,Q8r,Z0b,Z0i,toPV,Q6t,Q1c,sl,AObj.ren,renL,AV.ren,idx,Z7o,Z9a,List.range_succ,TYS];done)):J1j E a m e σ=x\/Z3y E a m σ=x:=h
theorem dk1{Q P:Prop}(q:Q)(h:Q->P:=by intro q;simp -implicitDefEqProofs only[RUNS,Q1j,Nat.reduceAdd,Nat.reduceLeDiff,Nat.reduceSub,reduceIte,Nat.reduceEqDiff,Nat.reduceLT,reduceCtorEq,Nat.reduceMul,Nat.reduceBEq,Int.reduceEq,Int.reduceToNat,G2g,G2p,if_true,G2v,eq_self,ne_eq,TYS,PU,G1s,q]<;>(try simp only[G1v,G1w,G1h])):P:=h q
theorem dv{P:Prop}(h:P:=by simp -implicitDefEqProofs only[RUNS,Q1j,Nat.reduceAdd,Nat.reduceLeDiff,Nat.reduceSub,reduceIte,Nat.reduceEqDiff,Nat.reduceLT,reduceCtorEq,Nat.reduceMul,Nat.reduceBEq,Int.reduceEq,Int.reduceToNat,G2g,G2p,if_true,G2v,eq_self,ne_eq,Q2t,gdec,G5i,G6o,G3j,G4b,G3a,bq1,bq2,TYS]):P:=h
theorem dv1{Q P:Prop}(q:Q)(h:Q->P:=by intro q;simp -implicitDefEqProofs only[RUNS,Q1j,Nat.reduceAdd,Nat.reduceLeDiff,Nat.reduceSub,reduceIte,Nat.reduceEqDiff,Nat.reduceLT,reduceCtorEq,Nat.reduceMul,Nat.reduceBEq,Int.reduceEq,Int.reduceToNat,G2g,G2p,if_true,G2v,eq_self,ne_eq,Q2t,gdec,G5i,G6o,G3j,G4b,G3a,bq1,bq2,TYS,PU,G1s,q]):P:=h q
theorem di{P:Prop}(h:P:=by simp -implicitDefEqProofs only[RUNS,Q1j,Nat.reduceAdd,Nat.reduceLeDiff,Nat.reduceSub,reduceIte,Nat.reduceEqDiff,Nat.reduceLT,reduceCtorEq,Nat.reduceMul,Nat.reduceBEq,Int.reduceEq,Int.reduceToNat,G2g,G2p,if_true,G2v,eq_self,ne_eq,Q6k,Q4o,Q4q,TYS];exact⟨rfl,rfl⟩):P:=h
theorem di1{Q P:Prop}(q:Q)(h:Q->P:=by intro q;simp -implicitDefEqProofs only[RUNS,Q1j,Nat.reduceAdd,Nat.reduceLeDiff,Nat.reduceSub,reduceIte,Nat.reduceEqDiff,Nat.reduceLT,reduceCtorEq,Nat.reduceMul,Nat.reduceBEq,Int.reduceEq,Int.reduceToNat,G2g,G2p,if_true,G2v,eq_self,ne_eq,Q6k,Q4o,Q4q,TYS,PU,G1s,q];exact⟨rfl,rfl⟩):P:=h q
theorem kp{P:Prop}(h:P:=by(repeat' first|exact trivial|refine⟨rfl,?_⟩|refine⟨(by simp only[G3y];rfl),?_⟩)):P:=h
theorem dh{P:Prop}(h:P:=by(((simp -implicitDefEqProofs only[RUNS,Q1j,Nat.reduceAdd,Nat.reduceLeDiff,Nat.reduceSub,reduceIte,Nat.reduceEqDiff,Nat.reduceLT,reduceCtorEq,Nat.reduceMul,Nat.reduceBEq,Int.reduceEq,Int.reduceToNat,G2g,G2p,if_true,G2v,eq_self,ne_eq,TYS]);repeat'(split<;>rename_i hb<;>(try simp only[HBS,ge_iff_le,gt_iff_lt]at hb)<;>(try simp only[hb,G2l,G2g,Int.reduceToNat,G2p,G2u,G1h]at q)<;>simp -implicitDefEqProofs only[RUNS,Q1j,Nat.reduceAdd,Nat.reduceLeDiff,Nat.reduceSub,reduceIte,Nat.reduceEqDiff,Nat.reduceLT,reduceCtorEq,Nat.reduceMul,Nat.reduceBEq,Int.reduceEq,Int.reduceToNat,G2g,G2p,if_true,G2v,eq_self,ne_eq,TYS, *,G4x,G7d,G8e,G6i,G5a]));all_goals(first|(simp only[Q1x];done)|(simp[*];done)|((try simp only[CLOS,G3o,G6w,ne_eq]at *)<;>omega)|(simp_all;done)|(simp_all<;>omega)))):P:=h
theorem dh1{Q P:Prop}(q:Q)(h:Q->P:=by(intro q;((simp -implicitDefEqProofs only[RUNS,Q1j,Nat.reduceAdd,Nat.reduceLeDiff,Nat.reduceSub,reduceIte,Nat.reduceEqDiff,Nat.reduceLT,reduceCtorEq,Nat.reduceMul,Nat.reduceBEq,Int.reduceEq,Int.reduceToNat,G2g,G2p,if_true,G2v,eq_self,ne_eq,TYS,PU,G1s,q]);repeat'(split<;>rename_i hb<;>(try simp only[HBS,ge_iff_le,gt_iff_lt]at hb)<;>(try simp only[hb,G2l,G2g,Int.reduceToNat,G2p,G2u,G1h]at q)<;>simp -implicitDefEqProofs only[RUNS,Q1j,Nat.reduceAdd,Nat.reduceLeDiff,Nat.reduceSub,reduceIte,Nat.reduceEqDiff,Nat.reduceLT,reduceCtorEq,Nat.reduceMul,Nat.reduceBEq,Int.reduceEq,Int.reduceToNat,G2g,G2p,if_true,G2v,eq_self,ne_eq,TYS,PU,G1s,q, *,G4x,G7d,G8e,G6i,G5a]));all_goals(first|(simp only[Q1x];done)|(simp[*];done)|((try simp only[CLOS,G3o,G6w,ne_eq]at *)<;>omega)|(simp_all;done)|(simp_all<;>omega)))):P:=h q
theorem dp{P:Prop}(h:P:=by simp -implicitDefEqProofs only[RUNS,Q1j,Nat.reduceAdd,Nat.reduceLeDiff,Nat.reduceSub,reduceIte,Nat.reduceEqDiff,Nat.reduceLT,reduceCtorEq,Nat.reduceMul,Nat.reduceBEq,Int.reduceEq,Int.reduceToNat,G2g,G2p,if_true,G2v,eq_self,ne_eq,Z5j,TYS];first|exact Q7k.panic rfl rfl rfl|exact Q7k.call rfl rfl (by simp -implicitDefEqProofs only[RUNS,Q1j,Nat.reduceAdd,Nat.reduceLeDiff,Nat.reduceSub,reduceIte,Nat.reduceEqDiff,Nat.reduceLT,reduceCtorEq,Nat.reduceMul,Nat.reduceBEq,Int.reduceEq,Int.reduceToNat,G2g,G2p,if_true,G2v,eq_self,ne_eq,TYS];first|done|rfl|exact⟨rfl,rfl⟩)):P:=h
theorem dp1{Q P:Prop}(q:Q)(h:Q->P:=by intro q;simp -implicitDefEqProofs only[RUNS,Q1j,Nat.reduceAdd,Nat.reduceLeDiff,Nat.reduceSub,reduceIte,Nat.reduceEqDiff,Nat.reduceLT,reduceCtorEq,Nat.reduceMul,Nat.reduceBEq,Int.reduceEq,Int.reduceToNat,G2g,G2p,if_true,G2v,eq_self,ne_eq,Z5j,TYS,PU,G1s,q];first|exact Q7k.panic rfl rfl rfl|exact Q7k.call rfl rfl (by simp -implicitDefEqProofs only[RUNS,Q1j,Nat.reduceAdd,Nat.reduceLeDiff,Nat.reduceSub,reduceIte,Nat.reduceEqDiff,Nat.reduceLT,reduceCtorEq,Nat.reduceMul,Nat.reduceBEq,Int.reduceEq,Int.reduceToNat,G2g,G2p,if_true,G2v,eq_self,ne_eq,TYS,PU,G1s,q];first|done|rfl|exact⟨rfl,rfl⟩)):P:=h q
theorem hq{P:Prop}(h:P:=by first|rfl|(simp only[G3w,G6k,List.take_nil,List.map_set,G3y,G2i,G3q,TYS];done)):P:=h
theorem ap0{O:Orc}{pf:FuncId->Bool}(f:FuncId)(h:O.pf=pf){q:Prop}(e:q)(hb:pf f=false:=by rfl):O.pf f=false/\q:=⟨pft h f hb,e⟩
theorem ap1{O:Orc}{pf:FuncId->Bool}(f:FuncId)(h:O.pf=pf){q:Prop}(e:q)(hb:pf f=true:=by rfl):O.pf f=true/\q:=⟨pft h f hb,e⟩
theorem srg{E:Env}{O:Orc}{k:Nat}{Q:Exit->St->Prop}(hS:Q2d E O)(ks:List Nat){id n:Nat}{t:Nat->AV}{h:List AObj}{ops:Array Oper}{y:Code}{L:List (Nat×AV)}{h':List AObj}(a:Q3h ks L h' (arun E O ops ops.toList ⟨t,n,h⟩))(d:AW E k y Q ⟨sl L,n,h'⟩):AW E k (.seq (.region id ops false) y) Q ⟨t,n,h⟩:=AW.seq (AW.rg hS ks a d)
theorem orp{E:Env}{L:List Spec}(c:AllG E L):∃ (O:Orc) (X:XO),Q2d E O/\Q7l E X/\O.pf=pfn/\∀ (i f:Nat) {S:Spec},Q1d L i f=some S->Kn O X f S:=orcs (pf:=pfn) c
theorem gh{E:Env}{S:Spec}{fn:Func}{c:Code}(a:E.P.funcs[S.f]?=some fn)(N:Nat)(h:∀ (x:S.α) (r:S.ρ),S.F x=some r->∀m,(S.A x).2.length=m->(decide ((S.A x).1.length<=N)=true/\AW E m c (retB E fn m [] (S.A x).2 (S.R x r)) ⟨sl (enum 0 (S.A x).1),N,(S.A x).2⟩))(d:(fn.name=="runtime.NumGoroutine")=false:=by rfl)(hb:fn.body=some c:=by rfl)(e:fn.ntmps=N:=by rfl)(hd0:E.dfs=[]:=by rfl):Q0c E S:=GH a d hb N e [] hd0 h
theorem ghs{E:Env}{S:Spec}{x:S.α}{r:S.ρ}{m N:Nat}{fn:Func}{c:Code}{a:List Nat}{args:List AV}{H:List AObj}{out:Out}(em:(S.A x).2.length=m){M:Nat}{L:List (Nat×AV)}(h:AW E M c (retB E fn M a H out) ⟨sl L,N,H⟩)(d:S.A x=(args,H):=by rfl)(e:S.R x r=out:=by rfl)(g:H.length=M:=by rfl)(i:decide (args.length<=N)=true:=by rfl)(j:enum 0 args=L:=by rfl):decide ((S.A x).1.length<=N)=true/\AW E m c (retB E fn m a (S.A x).2 (S.R x r)) ⟨sl (enum 0 (S.A x).1),N,(S.A x).2⟩:=GHs d e em g i j h
theorem wq{Q P:Prop}(q:Q)(h:Q->P:=by intro hb;simp only[hb,G1a,G0v,Q1x,G0m,G0o]<;>rfl):P:=h q
def NRM:=aj @Int.toNat_natCast (aj @Int.toNat_zero (aj @Nat.sub_zero (aj (@List.drop_zero:∀ {α:Type} {l:List α},List.drop 0 l=l) (@List.length_map:∀ {α β:Type} {l:List α} (f:α->β),(l.map f).length=l.length))))
def LNS:=aj (@List.length_cons:∀ {α:Type} {a:α} {l:List α},(a::l).length=l.length+1) (aj (@List.length_nil:∀ {α:Type},([]:List α).length=0) @Nat.zero_add)
theorem PVM:(∀ {α β:Type} (f:α->β) (a:α) (l:List α),List.map f (a::l)=f a::List.map f l)/\(∀ {α β:Type} (f:α->β),List.map f []=[]):=⟨λ_ _ _=>rfl,λ_=>rfl⟩
def PVE:=aj @PVM.1 (aj @PVM.2 (aj @K8e (aj @Word.pv_eq (aj @K8d (aj @Redir.pv_eq (aj @K8c (aj @Cmd.pv_eq (aj @Token.pv_eq @Shape.pv_eq))))))))
def pvAg:List AV->Bool
 | []=>true
 | .pv _::r=>pvAg r
 | .agg vs::r=>vs.all (λv=>match v with|.pv _=>true|.nils=>true|_=>false)&&pvAg r
 | _=>false
theorem J3a{f:Nat->Nat}:∀ {az:List AV},pvAg az=true->az.map (AV.mapL f)=az
 | [],_=>rfl
 | .pv p::r,h=>by rw[G2i,J3a (az:=r) h];rfl
 | .agg vs::r,h=>by
   simp only[pvAg,G0d]at h
   rw[G2i,J3a h.2]
   have e:vs.map (AV.mapL0 f)=vs:=by
    refine(G5f λv a=>?_).trans (List.map_id vs)
    have:=G0p.1 h.1 v a
    cases v<;>first|rfl|cases this
   simp only[AV.mapL,e]
theorem ecI{O:Orc}{f:FuncId}{k:Nat}{az:List AV}{o o':AObj}{rs:List AV}(h:O.C f (.ref 0 k::az) [o]=some (rs,[o']))(d:obj1 o=true)(p:pvAg rs=true)(q:obj1 o'=true)(H:List AObj)(i:Nat)(args:List AV)(g:H[i]?=some o)(u:Q4n args=some az):Q4u O H f (.ref i k::args)=some (Q6w rs,H.set i o'):=by
 obtain⟨x,z⟩:=Q7f (H:=H) (f:=idx [i]) u
 have l:Q1t H (.ref i k::args)=[i]:=by
  simp only[Q1t,toPV]
  rw[x]
  rfl
 have m:idx [i] i=some 0:=by simp[idx]
 have A:Q1a H (idx [i]) (.ref i k::args)=some (.ref 0 k::az):=by
  simp only[Q1a,toPV,AV.ren,m,G1s,z]
 have C:Q1c H (idx [i]) [i]=some [o]:=by
  simp only[Q1c,g,G0a,Z6p d]
 have D:Q1k H [i]=[]:=by
  simp only[Q1k,g]
  cases o with
  | var cs=>simp only[Q7r («az»:=cs) d,G0n]
  | _=>rfl
 have F:Q0r H [i] [o']=H.set i o':=by
  unfold Q0r
  rw[show List.drop [i].length [o']=[] from rfl,G3q,G0n]
  refine G5x (by simp) λj l a=>?_
  rw[G6n,G5z,List.getElem_set]
  by_cases e:i=j
  ·subst e
   rw[m]
   simp only[if_true]
   exact Z6q q
  have:idx [i] j=none:=by simp[idx,e]
  rw[this]
  have I:j<H.length:=by simpa using a
  simp[e,I]
 unfold Q4u
 simp only[l,D,G0n]
 have a:Q6f [i]=[i]:=by simp[Q6f]
 simp only[a,A,C,h,G0i,G0z,G0r,if_true,F,J3a p]
def gS:List Spec->Nat->Spec
 | S::_,0=>S
 | _::t,n+1=>gS t n
 | [],_=>⟨0,Unit,Unit,λ_=>none,λ_=>([],[]),λ_ _=>.ret [] [],λ_ _ _=>rfl⟩
theorem hd{E:Env}{L:List Spec}{S:Spec}{fn:Func}{c:Code}(g:AllG E L)(a:E.P.funcs[S.f]?=some fn)(N:Nat)(h:∀ (O:Orc) (X:XO),Q2d E O->Q7l E X->O.pf=pfn->(∀ (i f:Nat) {S:Spec},Q1d L i f=some S->Kn O X f S)->∀ (x:S.α) (r:S.ρ),S.F x=some r->(decide ((S.A x).1.length<=N)=true/\AW E (S.A x).2.length c (retB E fn (S.A x).2.length [] (S.A x).2 (S.R x r)) ⟨sl (enum 0 (S.A x).1),N,(S.A x).2⟩))(d:(fn.name=="runtime.NumGoroutine")=false:=by rfl)(hb:fn.body=some c:=by rfl)(e:fn.ntmps=N:=by rfl)(hd0:E.dfs=[]:=by rfl):Q0c E S:=by
 obtain⟨O,X,hS,hX,hpf,hk⟩:=orp g
 refine GH a d hb N e [] hd0 λx r j m em=>?_
 subst em
 exact h O X hS hX hpf hk x r j
theorem gs{E:Env}{S:Spec}{x:S.α}{r:S.ρ}{N:Nat}{fn:Func}{c:Code}{args:List AV}{H:List AObj}{out:Out}{M:Nat}{L:List (Nat×AV)}(h:AW E M c (retB E fn M [] H out) ⟨sl L,N,H⟩)(a:S.A x=(args,H):=by rfl)(d:S.R x r=out:=by rfl)(e:H.length=M:=by rfl)(g:decide (args.length<=N)=true:=by rfl)(i:enum 0 args=L:=by rfl):decide ((S.A x).1.length<=N)=true/\AW E (S.A x).2.length c (retB E fn (S.A x).2.length [] (S.A x).2 (S.R x r)) ⟨sl (enum 0 (S.A x).1),N,(S.A x).2⟩:=GHs a d rfl e g i h
section
variable {E:Env}{O:Orc}{X:XO}{k:Nat}{Q:Exit->St->Prop}{id n:Nat}{t:Nat->AV}{H:List AObj}{ops:Array Oper}{y:Code}
theorem R(ks:List Nat){L:List (Nat×AV)}{H':List AObj}(a:AW E k y Q ⟨sl L,n,H'⟩)(hS:Q2d E O:=by exact hS)(d:Q3h ks L H' (arun E O ops ops.toList ⟨t,n,H⟩):=by exact di):AW E k (.seq (.region id ops false) y) Q ⟨t,n,H⟩:=AW.seq (AW.rg hS ks d a)
theorem G(ks:List Nat){L:List (Nat×AV)}{H':List AObj}(a:Q .normal ⟨sl L,n,H'⟩)(hS:Q2d E O:=by exact hS)(d:Q3h ks L H' (arun E O ops ops.toList ⟨t,n,H⟩):=by exact di):AW E k (.region id ops false) Q ⟨t,n,H⟩:=AW.rg hS ks d a
theorem Rf{ρ:Type}{a r:ρ}{σ:St}(h:some a=some r)(hq:some a=some r->Q .ret σ:=by intro h;cases h;exact fin):AW E k .ret Q σ:=AW.ret (hq h)
theorem Rt{ρ:Type}{a r:ρ}(h:some a=some r)(ks:List Nat){L:List (Nat×AV)}{H':List AObj}(hS:Q2d E O:=by exact hS)(d:Q3h ks L H' (arun E O ops ops.toList ⟨t,n,H⟩):=by exact di)(hq:some a=some r->Q .ret ⟨sl L,n,H'⟩:=by intro h;cases h;exact fin):AW E k (.seq (.region id ops false) .ret) Q ⟨t,n,H⟩:=AW.seq (AW.rg hS ks d (AW.ret (hq h)))
theorem Z{L:List Spec}(hk:∀ (i f:Nat) {S:Spec},Q1d L i f=some S->Kn O X f S)(i f:Nat)(x:(gS L i).α)(hpf:O.pf=pfn:=by exact hpf)(hb:pfn f=false:=by rfl)(g:Q1d L i f=some (gS L i):=by rfl):∀a,(gS L i).F x=some a->O.pf f=false/\(∀args H rs H',(gS L i).A x=(args,H)->(gS L i).R x a=.ret rs H'->O.C f args H=some (rs,H'))/\∀args H v,(gS L i).A x=(args,H)->(gS L i).R x a=.boom v->X f args H=some v:=
 λ_ q=>⟨pft hpf f hb,λ_ _ _ _ d e=>(hk i f g).ret x q d e,λ_ _ _ d e=>(hk i f g).boom x q d e⟩
theorem Zt{L:List Spec}(hk:∀ (i f:Nat) {S:Spec},Q1d L i f=some S->Kn O X f S)(i f:Nat)(x:(gS L i).α)(hpf:O.pf=pfn:=by exact hpf)(hb:pfn f=true:=by rfl)(g:Q1d L i f=some (gS L i):=by rfl):∀a,(gS L i).F x=some a->O.pf f=true/\(∀args H rs H',(gS L i).A x=(args,H)->(gS L i).R x a=.ret rs H'->O.C f args H=some (rs,H'))/\∀args H v,(gS L i).A x=(args,H)->(gS L i).R x a=.boom v->X f args H=some v:=
 λ_ q=>⟨pft hpf f hb,λ_ _ _ _ d e=>(hk i f g).ret x q d e,λ_ _ _ d e=>(hk i f g).boom x q d e⟩
theorem Ua1{ρ β:Type}{F:Option (ρ)}{g:ρ->Option β}{r:β}(h:F.bind g=some r)(ks:List Nat){P:ρ->Prop}(z:∀a,F=some a->P a){L:ρ->List (Nat×AV)}{H':ρ->List AObj}(d:∀a,g a=some r->Q .normal ⟨sl (L a),n,H' a⟩)(hS:Q2d E O:=by exact hS)(i:∀a,P a->Q3h ks (L a) (H' a) (arun E O ops ops.toList ⟨t,n,H⟩):=by intro a p;obtain⟨p,q,-⟩:=p;replace q:=q _ _ _ _ rfl rfl;(try simp only[PVE]at q);(first|replace q:=an q (ecI q rfl rfl rfl)|replace q:=an q (ec3 q rfl rfl rfl rfl rfl rfl rfl)|replace q:=an q (ecp q rfl)|skip);exact di1 (an p q)):AW E k (.region id ops false) Q ⟨t,n,H⟩:=by
 obtain⟨a,e,h⟩:=obs h
 exact AW.rg hS ks (i a (z _ e)) (d a h)
theorem Ua2{ρ d β:Type}{F:Option (ρ×d)}{g:ρ×d->Option β}{r:β}(h:F.bind g=some r)(ks:List Nat){P:ρ×d->Prop}(z:∀a,F=some a->P a){L:ρ->d->List (Nat×AV)}{H':ρ->d->List AObj}(i:∀a b,g (a,b)=some r->Q .normal ⟨sl (L a b),n,H' a b⟩)(hS:Q2d E O:=by exact hS)(j:∀a b,P (a,b)->Q3h ks (L a b) (H' a b) (arun E O ops ops.toList ⟨t,n,H⟩):=by intro a b p;obtain⟨p,q,-⟩:=p;replace q:=q _ _ _ _ rfl rfl;(try simp only[PVE]at q);(first|replace q:=an q (ecI q rfl rfl rfl)|replace q:=an q (ec3 q rfl rfl rfl rfl rfl rfl rfl)|replace q:=an q (ecp q rfl)|skip);exact di1 (an p q)):AW E k (.region id ops false) Q ⟨t,n,H⟩:=by
 obtain⟨⟨a,b⟩,e,h⟩:=obs h
 exact AW.rg hS ks (j a b (z _ e)) (i a b h)
theorem Ua3{ρ d i β:Type}{F:Option (ρ×d×i)}{g:ρ×d×i->Option β}{r:β}(h:F.bind g=some r)(ks:List Nat){P:(ρ×d×i)->Prop}(z:∀a,F=some a->P a){L:ρ->d->i->List (Nat×AV)}{H':ρ->d->i->List AObj}(j:∀a b c,g (a,b,c)=some r->Q .normal ⟨sl (L a b c),n,H' a b c⟩)(hS:Q2d E O:=by exact hS)(l:∀a b c,P (a,b,c)->Q3h ks (L a b c) (H' a b c) (arun E O ops ops.toList ⟨t,n,H⟩):=by intro a b c p;obtain⟨p,q,-⟩:=p;replace q:=q _ _ _ _ rfl rfl;(try simp only[PVE]at q);(first|replace q:=an q (ecI q rfl rfl rfl)|replace q:=an q (ec3 q rfl rfl rfl rfl rfl rfl rfl)|replace q:=an q (ecp q rfl)|skip);exact di1 (an p q)):AW E k (.region id ops false) Q ⟨t,n,H⟩:=by
 obtain⟨⟨a,b,c⟩,e,h⟩:=obs h
 exact AW.rg hS ks (l a b c (z _ e)) (j a b c h)
def BM(_:Nat)(P:Prop):Prop:=P
theorem regB(hS:Q2d E O)(hX:Q7l E X){i:Nat}{o:Oper}{a:List Oper}{v:Value}{H':List AObj}(d:ops.toList.drop i=o::a)
 (e:J9m X o v H' (arun E O ops (ops.toList.take i) ⟨t,n,H⟩)) (g:Q (.panic [{ v:=v,recovered:=false }]) ⟨λ_=>.any,n,H'⟩):BM i (AW E k (.region id ops false) Q ⟨t,n,H⟩):=AW.regS hS hX i d e g
theorem Xa1{ρ β:Type}{F:Option (Int ⊕ (ρ))}{g:ρ->Option (Int ⊕ β)}{r:Int ⊕ β}(h:Q0i F g=some r)(ks:List Nat){P:Int ⊕ (ρ)->Prop}(z:∀a,F=some a->P a)(i:Nat){L:ρ->List (Nat×AV)}{H':ρ->List AObj}(d:∀a,g a=some r->Q .normal ⟨sl (L a),n,H' a⟩)(hS:Q2d E O:=by exact hS)(j:∀a,P (.inr a)->Q3h ks (L a) (H' a) (arun E O ops ops.toList ⟨t,n,H⟩):=by intro a p;obtain⟨p,q,-⟩:=p;replace q:=q _ _ _ _ rfl rfl;(try simp only[PVE]at q);(first|replace q:=an q (ecI q rfl rfl rfl)|replace q:=an q (ec3 q rfl rfl rfl rfl rfl rfl rfl)|replace q:=an q (ecp q rfl)|skip);exact di1 (an p q))(hb:∀m,P (.inl m)->r=.inl m->BM i (AW E k (.region id ops false) Q ⟨t,n,H⟩):=by intro m p e;subst e;obtain⟨-,-,q⟩:=p;replace q:=q _ _ _ rfl rfl;(try simp only[PVE]at q);replace q:=Q6g q rfl rfl;apply regB hS hX rfl;(· exact dp1 q);exact J9f rfl rfl rfl):AW E k (.region id ops false) Q ⟨t,n,H⟩:=by
 rcases Q1g h with⟨m,q,e⟩|⟨a,q,h⟩
 ·exact hb m (z _ q) e
 exact AW.rg hS ks (j a (z _ q)) (d a h)
theorem Xa2{ρ d β:Type}{F:Option (Int ⊕ (ρ×d))}{g:ρ×d->Option (Int ⊕ β)}{r:Int ⊕ β}(h:Q0i F g=some r)(ks:List Nat){P:Int ⊕ (ρ×d)->Prop}(z:∀a,F=some a->P a)(i:Nat){L:ρ->d->List (Nat×AV)}{H':ρ->d->List AObj}(j:∀a b,g (a,b)=some r->Q .normal ⟨sl (L a b),n,H' a b⟩)(hS:Q2d E O:=by exact hS)(l:∀a b,P (.inr (a,b))->Q3h ks (L a b) (H' a b) (arun E O ops ops.toList ⟨t,n,H⟩):=by intro a b p;obtain⟨p,q,-⟩:=p;replace q:=q _ _ _ _ rfl rfl;(try simp only[PVE]at q);(first|replace q:=an q (ecI q rfl rfl rfl)|replace q:=an q (ec3 q rfl rfl rfl rfl rfl rfl rfl)|replace q:=an q (ecp q rfl)|skip);exact di1 (an p q))(hb:∀m,P (.inl m)->r=.inl m->BM i (AW E k (.region id ops false) Q ⟨t,n,H⟩):=by intro m p e;subst e;obtain⟨-,-,q⟩:=p;replace q:=q _ _ _ rfl rfl;(try simp only[PVE]at q);replace q:=Q6g q rfl rfl;apply regB hS hX rfl;(· exact dp1 q);exact J9f rfl rfl rfl):AW E k (.region id ops false) Q ⟨t,n,H⟩:=by
 rcases Q1g h with⟨m,q,e⟩|⟨⟨a,b⟩,q,h⟩
 ·exact hb m (z _ q) e
 exact AW.rg hS ks (l a b (z _ q)) (j a b h)
theorem xb{α β:Type}{F:Option (Int ⊕ α)}{g:α->Option (Int ⊕ β)}{r:Int ⊕ β}(h:Q0i F g=some r){P:Int ⊕ α->Prop}(z:∀a,F=some a->P a)(i:Nat)(d:∀a,P (.inr a)->g a=some r->AW E k (.region id ops false) Q ⟨t,n,H⟩)(hS:Q2d E O:=by exact hS)(hX:Q7l E X:=by exact hX)(hb:∀m,P (.inl m)->r=.inl m->BM i (AW E k (.region id ops false) Q ⟨t,n,H⟩):=by intro m p e;subst e;obtain⟨-,-,q⟩:=p;replace q:=q _ _ _ rfl rfl;(try simp only[PVE]at q);replace q:=Q6g q rfl rfl;apply regB hS hX rfl;(· exact dp1 q);exact J9f rfl rfl rfl):AW E k (.region id ops false) Q ⟨t,n,H⟩:=by
 rcases Q1g h with⟨m,q,e⟩|⟨a,q,h⟩
 ·exact hb m (z _ q) e
 exact d a (z _ q) h
theorem oc{α β:Type}{o:Option α}{g:α->Option β}{b:β}{P:α->Prop}(h:o.bind g=some b)(k:∀a,o=some a->P a):∃a,P a/\g a=some b:=by
 obtain⟨a,e,h⟩:=obs h
 exact⟨a,k a e,h⟩
section
variable {f:Nat}{b:Bool}{α:List AV×List AObj}{ω:Out}{Y:Prop}{rs:List AV}{kk:Nat}{az:List AV}
theorem ca(p:O.pf f=b/\(∀args H rs H',α=(args,H)->ω=.ret rs H'->O.C f args H=some (rs,H'))/\Y){H':List AObj}(a:α=(az,H):=by rfl)(d:ω=.ret rs H':=by rfl):O.pf f=b/\O.C f az H=some (rs,H'):=⟨p.1,p.2.1 _ _ _ _ a d⟩
theorem cb(p:O.pf f=b/\(∀args H rs H',α=(args,H)->ω=.ret rs H'->O.C f args H=some (rs,H'))/\Y){o o':AObj}(a:α=(.ref 0 kk::az,[o]):=by rfl)(d:ω=.ret rs [o']:=by rfl)(e:obj1 o=true:=by rfl)(g:Z0j rs=true:=by rfl)(i:obj1 o'=true:=by rfl):O.pf f=b/\∀rest args,Q4n args=some az->Q4u O (o::rest) f (.ref 0 kk::args)=some (Q6w rs,o'::rest):=⟨p.1,ec1 (p.2.1 _ _ _ _ a d) e g i⟩
theorem cc(p:O.pf f=b/\(∀args H rs H',α=(args,H)->ω=.ret rs H'->O.C f args H=some (rs,H'))/\Y)(a:α=(az,[]):=by rfl)(d:ω=.ret rs []:=by rfl)(e:Z0j rs=true:=by rfl):O.pf f=b/\∀H args,Q4n args=some az->Q4u O H f args=some (Q6w rs,H):=⟨p.1,ecp (p.2.1 _ _ _ _ a d) e⟩
theorem cd(p:O.pf f=b/\(∀args H rs H',α=(args,H)->ω=.ret rs H'->O.C f args H=some (rs,H'))/\Y){cs cs':List AV}{u v a v':AObj}(d:α=(.ref 0 kk::az,[.var cs,u,v]):=by rfl)(e:ω=.ret rs [.var cs',a,v']:=by rfl)(g:(in12 cs&&decide (Q5c cs=[1,2]))=true:=by rfl)(i:obj1 u=true:=by rfl)(j:obj1 v=true:=by rfl)(l:Z0j rs=true:=by rfl)(m:in12 cs'=true:=by rfl)(o:obj1 a=true:=by rfl)(q:obj1 v'=true:=by rfl):O.pf f=b/\∀rest args,Q4n args=some az->Q4u O (.var cs::u::v::rest) f (.ref 0 kk::args)=some (Q6w rs,.var cs'::a::v'::rest):=⟨p.1,ec3 (p.2.1 _ _ _ _ d e) g i j l m o q⟩
end
section
variable {β ρ:Type}{f:(β->Option ρ)->β->Option ρ}{r:ρ}{c:Code}{σ:St}
def NX(E:Env)(k:Nat)(f:(β->Option ρ)->β->Option ρ)(r:ρ)(I:β->St)(m:Nat)(σ:St):Prop:=∃b a,iter f a b=some r/\Weak E k σ (I b)/\a<=m
def NY(E:Env)(k:Nat)(f:(β->Option ρ)->β->Option ρ)(r:ρ)(I:β->St)(σ:St):Prop:=∃b a,iter f a b=some r/\Weak E k σ (I b)
theorem lpr{Q:Exit->St->Prop}(I:β->St)(i:∀b m,f (iter f m) b=some r->AW E k c (Z2e (NX E k f r I m) Q) (I b))(x:Nat×β)(p:iter f x.1 x.2=some r):AW E k c (Z2e (λσ'=>∃d:Nat×β,iter f d.1 d.2=some r/\Weak E k σ' (I d.2)/\d.1<x.1) Q) (I x.2):=by
 obtain⟨m,j,h⟩:=X8p p
 intro γ₀ H₀ Φ₀ w₀ a w l o
 refine wp_mono (i x.2 m h γ₀ H₀ Φ₀ w₀ a w l o) λe d w' ⟨σ',q,g⟩=>⟨σ',q,?_⟩
 cases e with
 | normal=>
   obtain⟨b,u,z,A,C⟩:=g
   exact⟨(u,b),z,A,by rw[j];exact Nat.lt_succ_of_le C⟩
 | _=>exact g
theorem Lp{N:Nat}{a:β}(h:iter f N a=some r)(I:β->St)(d:∀b m,f (iter f m) b=some r->AW E k c (Z2e (NX E k f r I m) Q) (I b))(e:Weak E k σ (I a):=by exact Wq0 kp):AW E k (.loop c) Q σ:=
 AW.lp (λx:Nat×β=>I x.2) (λx=>iter f x.1 x.2=some r) (λx=>x.1) (N,a) e h (lpr I d)
theorem Lq(r:ρ)(f:(β->Option ρ)->β->Option ρ)(I:β->St)(d:AW E k c (Z2e (NY E k f r I) Q) σ)(i:∀b m,f (iter f m) b=some r->AW E k c (Z2e (NX E k f r I m) Q) (I b)):AW E k (.loop c) Q σ:=by
 refine AW.lp1 (λx:Nat×β=>I x.2) (λx=>iter f x.1 x.2=some r) (λx=>x.1) (λγ₀ H₀ Φ₀ w₀ a w j l=>?_) (lpr I i)
 refine wp_mono (d γ₀ H₀ Φ₀ w₀ a w j l) λe u w' ⟨σ',o,g⟩=>⟨σ',o,?_⟩
 cases e with
 | normal=>
   obtain⟨b,p,d,q⟩:=g
   exact⟨(p,b),d,q⟩
 | _=>exact g
theorem Wn{m:Nat}{t:Nat->AV}{L:List (Nat×AV)}{H H':List AObj}(e:H'.length=m)(hk:k<=m)(a:Q8x t L)(d:H.take m=H')(g:H'.all (AObj.ltB m)=true)(i:(L.all λp=>p.2.ltB m)=true):Weak E k ⟨t,n,H⟩ ⟨sl L,n,H'⟩:=Weak.norm hk a d g i
theorem hq₂{P:Prop}(h:P:=by first|rfl|(simp only[G0i,G0z,G3h,Nat.reduceAdd,G3w,G6k,List.take_nil,List.map_set,G3y,G2i,G3q,TYS];done)):P:=h
theorem nx{I:β->St}{m a:Nat}{b:β}(h:iter f a b=some r)(d:Weak E k σ (I b):=by first|exact Wq0 kp|exact Wn rfl (G6g rfl) kp hq₂ rfl rfl)(e:a<=m:=by exact G0r _):NX E k f r I m σ:=⟨b,a,h,d,e⟩
theorem ny{I:β->St}{a:Nat}{b:β}(h:iter f a b=some r)(d:Weak E k σ (I b):=by first|exact Wq0 kp|exact Wn rfl (G6g rfl) kp hq₂ rfl rfl):NY E k f r I σ:=⟨b,a,h,d⟩
end
theorem iz{α:Type}{r:α}{b b':Bool}{u v:Option α}(h:(bif b then u else v)=some r){c:Operand}{x y:Code}{σ:St}(a:u=some r->AW E k x Q σ)(d:v=some r->AW E k y Q σ)(e:ev σ.t c=.pv (.bool b'):=by rfl)(hb:b'=b:=by rfl):AW E k (.cond c x y) Q σ:=AW.iff_ h e hb (λ_=>a) (λ_=>d)
theorem ik{α:Type}{r:α}{b b':Bool}{u v:Option α}(h:(bif b then u else v)=some r){c:Operand}{x:Code}{σ:St}(a:u=some r->AW E k x Q σ)(d:v=some r->Q .normal σ)(e:ev σ.t c=.pv (.bool b'):=by rfl)(hb:b'=b:=by rfl):AW E k (.cond c x .skip) Q σ:=AW.iff_ h e hb (λ_=>a) λ_ q=>AW.skip (d q)
theorem ex{ρ:Type}{a r:ρ}{i:Nat}{σ:St}(h:some a=some r)(hq:some a=some r->Q (.exit i) σ:=by intro h;cases h;exact fin):AW E k (.exit i) Q σ:=AW.exit (hq h)
end
section
open AW
theorem ce{O:Orc}{f:Nat}{b:Bool}{α:List AV×List AObj}{ω:Out}{Y:Prop}{rs:List AV}{kk:Nat}{az:List AV}(p:O.pf f=b/\(∀args H rs H',α=(args,H)->ω=.ret rs H'->O.C f args H=some (rs,H'))/\Y){o o':AObj}(a:α=(.ref 0 kk::az,[o]):=by rfl)(d:ω=.ret rs [o']:=by rfl)(e:obj1 o=true:=by rfl)(g:pvAg rs=true:=by rfl)(j:obj1 o'=true:=by rfl):O.pf f=b/\∀ (H:List AObj) (i:Nat) (args:List AV),H[i]?=some o->Q4n args=some az->Q4u O H f (.ref i kk::args)=some (Q6w rs,H.set i o'):=⟨p.1,ecI (p.2.1 _ _ _ _ a d) e g j⟩
theorem bs{α:Type}{b:Bool}{u v:Option α}{r:α}(h:(bif b then u else v)=some r):(b=true/\u=some r)\/(b=false/\v=some r):=by
 cases b
 ·exact .inr ⟨rfl,h⟩
 exact .inl ⟨rfl,h⟩
theorem cF{E:Env}{k:Nat}{Q:Exit->St->Prop}{c:Operand}{x y:Code}{σ:St}(a:AW E k y Q σ)(d:ev σ.t c=.pv (.bool false):=by rfl):AW E k (.cond c x y) Q σ:=cond (b:=false) d (λhb=>absurd hb (by decide)) (λ_=>a)
theorem jn{β:Type}{J:β->Prop}{E:Env}{k:Nat}{σ:St}{I:β->St}{b:β}(h:J b)(a:Weak E k σ (I b):=by first|exact Wq0 kp|exact Wn rfl (G6g rfl) kp hq₂ rfl rfl):∃b,J b/\Weak E k σ (I b):=⟨b,h,a⟩
theorem ap{α β:Type}(f:α->PV){sz:Nat}{xs ys:List α}{g:List α->Option β}{r:β}(h:(appO sz xs ys).bind g=some r){P:List α->Prop}(z:∀v,(((xs.length+ys.length) * sz<=140737488355328)=True/\List.map f xs++List.map f ys=List.map f v/\v.length=xs.length+ys.length)->P v:=by intro v q;obtain⟨a,b,c⟩:=q;(try simp only[LNS,G1z,Nat.reduceAdd,Nat.reduceLeDiff,G3m,Nat.reduceMul]at a);(try simp only[PVE,G0t]at b);(try simp only[LNS]at c);first|exact aj a (aj b (show v.length=1 from c))|exact aj a (aj b (show v.length=2 from c))|(rw[<-c]at a;exact aj a (aj b c.symm))):∃v,P v/\g v=some r:=by
 obtain⟨v,e,h⟩:=obs h
 exact⟨v,z v ⟨(K0p e).1,Y1n f e,Y1m e⟩,h⟩
section
variable {E:Env}{O:Orc}{X:XO}{k:Nat}
theorem oC{α:Type}(f:α->PV)(i c a sz:Nat){n:Nat}{L:List (Nat×AV)}{H H':List AObj}{cs:List AV}{R:St->Prop}(q:R ⟨sl L,n,H'⟩)(d:H[i]?=some (.var cs):=by rfl)(g:cs[c]?=some .nils:=by rfl)(j:0<sz:=by decide)
 (e:H.set i (.var (cs.set c (.vec H.length (List.length ([]:List α)))))++[.row a sz (List.map f []) true]=H':=by simp only[List.set_cons_zero,List.set_cons_succ,G0i,G0z,G1d,G0t,Nat.reduceAdd,G3h];rfl):∃σ',Weak E k ⟨sl L,n,H⟩ σ'/\R σ':=by
 subst e
 exact⟨_,Weak.ownC (σ:=⟨sl L,n,H⟩) i c a sz j d g,q⟩
theorem o2{σ:St}{R:St->Prop}(h:∃σ',Weak E k σ σ'/\∃σ'',Weak E k σ' σ''/\R σ''):∃σ',Weak E k σ σ'/\R σ':=by
 obtain⟨_,a,_,b,c⟩:=h
 exact⟨_,a.trans b,c⟩
def toC(H:List AObj):List AV->List AV->Prop
 | [],[]=>True
 | a::r,b::s=>(a=b\/∃p,b=.pv p/\toPV H a=some p)/\toC H r s
 | _,_=>False
theorem K2v{H:List AObj}{l:Nat}{cs ds:List AV}(d:H[l]?=some (.var cs))(a:AV):toPV (H.set l (.var ds)) a=toPV H a:=by
 cases a with
 | vec j n=>
   simp only[toPV,List.getElem?_set]
   by_cases h:l=j
   ·subst h
    have:l<H.length:=(G0j.1 d).1
    simp only[this,d,if_true]
   simp[h]
 | _=>rfl
theorem X6k{H:List AObj}{l:Nat}{cs ds:List AV}(d:H[l]?=some (.var cs)):∀ {r s:List AV},toC H r s->toC (H.set l (.var ds)) r s
 | [],[],h=>h
 | a::r,b::s,⟨h,h'⟩=>⟨h.imp id λ⟨p,e,q⟩=>⟨p,e,by rw[K2v d];exact q⟩,X6k d h'⟩
theorem Weak.cells(l:Nat):∀ {cs cs' pre:List AV} {σ:St},σ.h[l]?=some (.var (pre++cs))->toC σ.h cs cs'->Weak E k σ ⟨σ.t,σ.n,σ.h.set l (.var (pre++cs'))⟩
 | [],[],pre,σ,d,_=>by
   refine(Weak.refl σ).of_eq ?_
   have i:=(G0j.1 d).1
   have e:σ.h.set l (.var (pre++[]))=σ.h:=by
    refine G5x (by simp) λj g m=>?_
    rw[List.getElem_set]
    split
    ·rename_i e
     subst e
     exact((G0j.1 d).2).symm
    rfl
   rw[e]
 | a::r,b::s,pre,σ,d,⟨h,h'⟩=>by
   rcases h with rfl|⟨p,rfl,o⟩
   ·have:=Weak.cells l (cs:=r) (cs':=s) (pre:=pre++[a]) (σ:=σ) (by rw[d];simp) h'
    simpa using this
   have g:=Weak.cellPV (E:=E) (k:=k) (σ:=σ) l pre.length d (a:=a) (by simp) o
   have e:(pre++a::r).set pre.length (.pv p)=pre++[.pv p]++r:=by simp
   rw[e]at g
   have i:=(G0j.1 d).1
   have m:=Weak.cells l (cs:=r) (cs':=s) (pre:=pre++[.pv p]) (σ:=⟨σ.t,σ.n,σ.h.set l (.var (pre++[.pv p]++r))⟩) (by simp[i]) (X6k d h')
   refine g.trans (m.of_eq ?_)
   simp[List.set_set]
theorem Wc(l:Nat){n m:Nat}{t:Nat->AV}{L:List (Nat×AV)}{H H':List AObj}{cs cs':List AV}(a:H[l]?=some (.var cs):=by rfl)(o:H'[l]?=some (.var cs'):=by rfl)(d:toC H cs cs':=by(repeat' first|exact trivial|refine⟨.inl rfl,?_⟩|refine⟨.inr ⟨_,rfl,(by first|rfl|simp only[toPV,G0s,G1f,G1h,if_true,G3q,G2i,TYS])⟩,?_⟩))
 (em:H'.length=m:=by rfl) (hk:k<=m:=by exact G6g rfl) (e:Q8x t L:=by exact kp) (g:(H.set l (.var cs')).take m=H':=by exact hq₂) (i:H'.all (AObj.ltB m)=true:=by rfl) (j:(L.all λp=>p.2.ltB m)=true:=by rfl):Weak E k ⟨t,n,H⟩ ⟨sl L,n,H'⟩:=
 (Weak.cells (σ:=⟨t,n,H⟩) (pre:=[]) l a d).trans (Weak.norm hk e g i j)
def zn:Nat->Nat->List AV->List (Nat×AV)->List (Nat×AV)
 | _,0,_,L=>L
 | n,m+1,v::vs,L=>(n,v)::zn (n+1) m vs L
 | _,_+1,[],L=>L
def hs1:List AObj->List (Nat×AObj)->List AObj
 | h,[]=>h
 | h,p::r=>hs1 (h.set p.1 p.2) r
def hD:List AObj->List (List (Nat×AObj))->List (List AObj)
 | h,[]=>[h]
 | h,d::r=>h::hD (hs1 h d) r
theorem pk{ks:List Nat}{t:Nat->AV}{L:List (Nat×AV)}(h:pick ks t=L):Q8x t L:=h▸Z0e ks
end
section
variable {O:Orc}{X:XO}{k id n:Nat}{L0:List (Nat×AV)}{h:List AObj}{ops:Array Oper}{Q:Exit->St->Prop}
theorem dV(e g:Nat)(a:List Nat)(F:List (Nat×Nat))(d:List AV)(ds:List (List (Nat×AObj)))(ks:List Nat){Qf:Prop}(i:Qf){LF L:List (Nat×AV)}{hs:List (List AObj)}{h':List AObj}(j:Q .normal ⟨sl L,n,h'⟩)(hS:Q2d env O:=by exact hS)
 (z:zn e g d L0=LF:=by simp only[zn,Nat.reduceAdd];rfl) (A:hD h ds=hs:=by simp only[hD,hs1,List.set_cons_zero,List.set_cons_succ];rfl)
 (l:Q7g ops d++L0=LF:=by kernel_rfl) (m:K6z ops n a F=true:=by kernel_rfl) (o:hs.getD 0 []=h:=by kernel_rfl)
 (p:Qf->Q5f env O ops (sl LF) n d hs a F:=by intro q;(repeat'(first|exact Q5f.nil|refine Q5f.cons rfl rfl rfl ?_ ?_));all_goals first|exact dv1 q|exact dv)
 (u:pick ks (sl LF)=L:=by simp -implicitDefEqProofs only[RUNS,Q1j,Nat.reduceAdd,Nat.reduceLeDiff,Nat.reduceSub,reduceIte,Nat.reduceEqDiff,Nat.reduceLT,reduceCtorEq,Nat.reduceMul,Nat.reduceBEq,Int.reduceEq,Int.reduceToNat,G2g,G2p,if_true,G2v,eq_self,ne_eq,Q6k,Q4o];rfl) (x:hs.getD a.length []=h':=by simp only[G0i,G0z,G3h,Nat.reduceAdd,G6o,G5i];rfl):AW env k (.region id ops true) Q ⟨sl L0,n,h⟩:=
 dregV mixed hS a F d hs LF l m o (p i) L h' (pk u) x j
theorem dS(g i d:Nat)(e:List Nat)(a:List AV)(H':List AObj){Qf Qx:Prop}(l:Qf)(m:Qx){LF:List (Nat×AV)}{o:Oper}{v:Value}(hS:Q2d env O:=by exact hS)(hX:Q7l env X:=by exact hX)(D:zn g i a L0=LF:=by simp only[zn,Nat.reduceAdd];rfl)(p:Q7g ops a++L0=LF:=by kernel_rfl)(u:X6t ops n d e=true:=by kernel_rfl)
 (x:ops[d]?=some o:=by rfl) (z:Qf->Q5f env O ops (sl LF) n a [h] [] (e.map λj=>(j,0)):=by intro q;(repeat'(first|exact Q5f.nil|refine Q5f.cons rfl rfl rfl ?_ ?_));all_goals first|exact dv1 q|exact dv)
 (A:Qx->Q7k X o (sl LF) h v H':=by intro q;exact Q7k.call rfl rfl (by simp -implicitDefEqProofs only[RUNS,Q1j,Nat.reduceAdd,Nat.reduceLeDiff,Nat.reduceSub,reduceIte,Nat.reduceEqDiff,Nat.reduceLT,reduceCtorEq,Nat.reduceMul,Nat.reduceBEq,Int.reduceEq,Int.reduceToNat,G2g,G2p,if_true,G2v,eq_self,ne_eq,TYS,q]<;>rfl)) (C:Q (.panic [{ v:=v,recovered:=false }]) ⟨λ_=>.any,n,H'⟩:=by exact J9f rfl rfl rfl):AW env k (.region id ops true) Q ⟨sl L0,n,h⟩:=
 dregS mixed hS hX d e a LF p u x (z l) (A m) C
end
end
def un2{a d ρ:Type}(F:a->d->Option ρ):a×d->Option ρ:=λ(e,g)=>F e g
def un3{a d e ρ:Type}(F:a->d->e->Option ρ):a×d×e->Option ρ:=λ(g,i,j)=>F g i j
def un4{a d e g ρ:Type}(F:a->d->e->g->Option ρ):a×d×e×g->Option ρ:=λ(i,j,l,m)=>F i j l m
def un5{a d e g i ρ:Type}(F:a->d->e->g->i->Option ρ):a×d×e×g×i->Option ρ:=λ(j,l,m,o,p)=>F j l m o p
def un6{a d e g i j ρ:Type}(F:a->d->e->g->i->j->Option ρ):a×d×e×g×i×j->Option ρ:=λ(l,m,o,p,q,u)=>F l m o p q u
def un7{a d e g i j l ρ:Type}(F:a->d->e->g->i->j->l->Option ρ):a×d×e×g×i×j×l->Option ρ:=λ(m,o,p,q,u,x,z)=>F m o p q u x z
def un8{a d e g i j l m ρ:Type}(F:a->d->e->g->i->j->l->m->Option ρ):a×d×e×g×i×j×l×m->Option ρ:=λ(o,p,q,u,x,z,A,C)=>F o p q u x z A C
def un9{a d e g i j l m o ρ:Type}(F:a->d->e->g->i->j->l->m->o->Option ρ):a×d×e×g×i×j×l×m×o->Option ρ:=λ(p,q,u,x,z,A,C,D,I)=>F p q u x z A C D I
section
variable {E:Env}{O:Orc}{X:XO}
theorem Z2{L:List Spec}(hk:∀ (i f:Nat) {S:Spec},Q1d L i f=some S->Kn O X f S)(i:Nat){m o ρ:Type}{f:FuncId}{F:m->o->Option ρ}{A R j}{a0 a1}(e:gS L i=⟨f,m×o,ρ,un2 F,A,R,j⟩)(hpf:O.pf=pfn:=by exact hpf)(hb:pfn f=false:=by rfl)(d:Q1d L i f=some (gS L i):=by rfl):∀a,F a0 a1=some a->O.pf f=false/\(∀args H rs H',A (a0,a1)=(args,H)->R (a0,a1) a=.ret rs H'->O.C f args H=some (rs,H'))/\∀args H v,A (a0,a1)=(args,H)->R (a0,a1) a=.boom v->X f args H=some v:=by
 rw[e]at d
 exact λ_ q=>⟨pft hpf f hb,λ_ _ _ _ g l=>(hk i f d).ret (a0,a1) q g l,λ_ _ _ g l=>(hk i f d).boom (a0,a1) q g l⟩
theorem Z3{L:List Spec}(hk:∀ (i f:Nat) {S:Spec},Q1d L i f=some S->Kn O X f S)(i:Nat){m o p ρ:Type}{f:FuncId}{F:m->o->p->Option ρ}{A R j}{a0 a1 a2}(e:gS L i=⟨f,m×o×p,ρ,un3 F,A,R,j⟩)(hpf:O.pf=pfn:=by exact hpf)(hb:pfn f=false:=by rfl)(d:Q1d L i f=some (gS L i):=by rfl):∀a,F a0 a1 a2=some a->O.pf f=false/\(∀args H rs H',A (a0,a1,a2)=(args,H)->R (a0,a1,a2) a=.ret rs H'->O.C f args H=some (rs,H'))/\∀args H v,A (a0,a1,a2)=(args,H)->R (a0,a1,a2) a=.boom v->X f args H=some v:=by
 rw[e]at d
 exact λ_ q=>⟨pft hpf f hb,λ_ _ _ _ g l=>(hk i f d).ret (a0,a1,a2) q g l,λ_ _ _ g l=>(hk i f d).boom (a0,a1,a2) q g l⟩
theorem Z4{L:List Spec}(hk:∀ (i f:Nat) {S:Spec},Q1d L i f=some S->Kn O X f S)(i:Nat){m o p u ρ:Type}{f:FuncId}{F:m->o->p->u->Option ρ}{A R j}{a0 a1 a2 a3}(e:gS L i=⟨f,m×o×p×u,ρ,un4 F,A,R,j⟩)(hpf:O.pf=pfn:=by exact hpf)(hb:pfn f=false:=by rfl)(d:Q1d L i f=some (gS L i):=by rfl):∀a,F a0 a1 a2 a3=some a->O.pf f=false/\(∀args H rs H',A (a0,a1,a2,a3)=(args,H)->R (a0,a1,a2,a3) a=.ret rs H'->O.C f args H=some (rs,H'))/\∀args H v,A (a0,a1,a2,a3)=(args,H)->R (a0,a1,a2,a3) a=.boom v->X f args H=some v:=by
 rw[e]at d
 exact λ_ q=>⟨pft hpf f hb,λ_ _ _ _ g l=>(hk i f d).ret (a0,a1,a2,a3) q g l,λ_ _ _ g l=>(hk i f d).boom (a0,a1,a2,a3) q g l⟩
theorem Z5{L:List Spec}(hk:∀ (i f:Nat) {S:Spec},Q1d L i f=some S->Kn O X f S)(i:Nat){m o p u x ρ:Type}{f:FuncId}{F:m->o->p->u->x->Option ρ}{A R j}{a0 a1 a2 a3 a4}(e:gS L i=⟨f,m×o×p×u×x,ρ,un5 F,A,R,j⟩)(hpf:O.pf=pfn:=by exact hpf)(hb:pfn f=false:=by rfl)(d:Q1d L i f=some (gS L i):=by rfl):∀a,F a0 a1 a2 a3 a4=some a->O.pf f=false/\(∀args H rs H',A (a0,a1,a2,a3,a4)=(args,H)->R (a0,a1,a2,a3,a4) a=.ret rs H'->O.C f args H=some (rs,H'))/\∀args H v,A (a0,a1,a2,a3,a4)=(args,H)->R (a0,a1,a2,a3,a4) a=.boom v->X f args H=some v:=by
 rw[e]at d
 exact λ_ q=>⟨pft hpf f hb,λ_ _ _ _ g l=>(hk i f d).ret (a0,a1,a2,a3,a4) q g l,λ_ _ _ g l=>(hk i f d).boom (a0,a1,a2,a3,a4) q g l⟩
theorem Z6{L:List Spec}(hk:∀ (i f:Nat) {S:Spec},Q1d L i f=some S->Kn O X f S)(i:Nat){m o p u x z ρ:Type}{f:FuncId}{F:m->o->p->u->x->z->Option ρ}{A R j}{a0 a1 a2 a3 a4 a5}(e:gS L i=⟨f,m×o×p×u×x×z,ρ,un6 F,A,R,j⟩)(hpf:O.pf=pfn:=by exact hpf)(hb:pfn f=false:=by rfl)(d:Q1d L i f=some (gS L i):=by rfl):∀a,F a0 a1 a2 a3 a4 a5=some a->O.pf f=false/\(∀args H rs H',A (a0,a1,a2,a3,a4,a5)=(args,H)->R (a0,a1,a2,a3,a4,a5) a=.ret rs H'->O.C f args H=some (rs,H'))/\∀args H v,A (a0,a1,a2,a3,a4,a5)=(args,H)->R (a0,a1,a2,a3,a4,a5) a=.boom v->X f args H=some v:=by
 rw[e]at d
 exact λ_ q=>⟨pft hpf f hb,λ_ _ _ _ g l=>(hk i f d).ret (a0,a1,a2,a3,a4,a5) q g l,λ_ _ _ g l=>(hk i f d).boom (a0,a1,a2,a3,a4,a5) q g l⟩
theorem Z7{L:List Spec}(hk:∀ (i f:Nat) {S:Spec},Q1d L i f=some S->Kn O X f S)(i:Nat){m o p u x z C ρ:Type}{f:FuncId}{F:m->o->p->u->x->z->C->Option ρ}{A R j}{a0 a1 a2 a3 a4 a5 a6}(e:gS L i=⟨f,m×o×p×u×x×z×C,ρ,un7 F,A,R,j⟩)(hpf:O.pf=pfn:=by exact hpf)(hb:pfn f=false:=by rfl)(d:Q1d L i f=some (gS L i):=by rfl):∀a,F a0 a1 a2 a3 a4 a5 a6=some a->O.pf f=false/\(∀args H rs H',A (a0,a1,a2,a3,a4,a5,a6)=(args,H)->R (a0,a1,a2,a3,a4,a5,a6) a=.ret rs H'->O.C f args H=some (rs,H'))/\∀args H v,A (a0,a1,a2,a3,a4,a5,a6)=(args,H)->R (a0,a1,a2,a3,a4,a5,a6) a=.boom v->X f args H=some v:=by
 rw[e]at d
 exact λ_ q=>⟨pft hpf f hb,λ_ _ _ _ g l=>(hk i f d).ret (a0,a1,a2,a3,a4,a5,a6) q g l,λ_ _ _ g l=>(hk i f d).boom (a0,a1,a2,a3,a4,a5,a6) q g l⟩
theorem Z8{L:List Spec}(hk:∀ (i f:Nat) {S:Spec},Q1d L i f=some S->Kn O X f S)(i:Nat){m o p u x z C D ρ:Type}{f:FuncId}{F:m->o->p->u->x->z->C->D->Option ρ}{A R j}{a0 a1 a2 a3 a4 a5 a6 a7}(e:gS L i=⟨f,m×o×p×u×x×z×C×D,ρ,un8 F,A,R,j⟩)(hpf:O.pf=pfn:=by exact hpf)(hb:pfn f=false:=by rfl)(d:Q1d L i f=some (gS L i):=by rfl):∀a,F a0 a1 a2 a3 a4 a5 a6 a7=some a->O.pf f=false/\(∀args H rs H',A (a0,a1,a2,a3,a4,a5,a6,a7)=(args,H)->R (a0,a1,a2,a3,a4,a5,a6,a7) a=.ret rs H'->O.C f args H=some (rs,H'))/\∀args H v,A (a0,a1,a2,a3,a4,a5,a6,a7)=(args,H)->R (a0,a1,a2,a3,a4,a5,a6,a7) a=.boom v->X f args H=some v:=by
 rw[e]at d
 exact λ_ q=>⟨pft hpf f hb,λ_ _ _ _ g l=>(hk i f d).ret (a0,a1,a2,a3,a4,a5,a6,a7) q g l,λ_ _ _ g l=>(hk i f d).boom (a0,a1,a2,a3,a4,a5,a6,a7) q g l⟩
theorem Z9{L:List Spec}(hk:∀ (i f:Nat) {S:Spec},Q1d L i f=some S->Kn O X f S)(i:Nat){m o p u x z C D I ρ:Type}{f:FuncId}{F:m->o->p->u->x->z->C->D->I->Option ρ}{A R j}{a0 a1 a2 a3 a4 a5 a6 a7 a8}(e:gS L i=⟨f,m×o×p×u×x×z×C×D×I,ρ,un9 F,A,R,j⟩)(hpf:O.pf=pfn:=by exact hpf)(hb:pfn f=false:=by rfl)(d:Q1d L i f=some (gS L i):=by rfl):∀a,F a0 a1 a2 a3 a4 a5 a6 a7 a8=some a->O.pf f=false/\(∀args H rs H',A (a0,a1,a2,a3,a4,a5,a6,a7,a8)=(args,H)->R (a0,a1,a2,a3,a4,a5,a6,a7,a8) a=.ret rs H'->O.C f args H=some (rs,H'))/\∀args H v,A (a0,a1,a2,a3,a4,a5,a6,a7,a8)=(args,H)->R (a0,a1,a2,a3,a4,a5,a6,a7,a8) a=.boom v->X f args H=some v:=by
 rw[e]at d
 exact λ_ q=>⟨pft hpf f hb,λ_ _ _ _ g l=>(hk i f d).ret (a0,a1,a2,a3,a4,a5,a6,a7,a8) q g l,λ_ _ _ g l=>(hk i f d).boom (a0,a1,a2,a3,a4,a5,a6,a7,a8) q g l⟩
theorem Zt2{L:List Spec}(hk:∀ (i f:Nat) {S:Spec},Q1d L i f=some S->Kn O X f S)(i:Nat){m o ρ:Type}{f:FuncId}{F:m->o->Option ρ}{A R j}{a0 a1}(e:gS L i=⟨f,m×o,ρ,un2 F,A,R,j⟩)(hpf:O.pf=pfn:=by exact hpf)(hb:pfn f=true:=by rfl)(d:Q1d L i f=some (gS L i):=by rfl):∀a,F a0 a1=some a->O.pf f=true/\(∀args H rs H',A (a0,a1)=(args,H)->R (a0,a1) a=.ret rs H'->O.C f args H=some (rs,H'))/\∀args H v,A (a0,a1)=(args,H)->R (a0,a1) a=.boom v->X f args H=some v:=by
 rw[e]at d
 exact λ_ q=>⟨pft hpf f hb,λ_ _ _ _ g l=>(hk i f d).ret (a0,a1) q g l,λ_ _ _ g l=>(hk i f d).boom (a0,a1) q g l⟩
theorem Zt3{L:List Spec}(hk:∀ (i f:Nat) {S:Spec},Q1d L i f=some S->Kn O X f S)(i:Nat){m o p ρ:Type}{f:FuncId}{F:m->o->p->Option ρ}{A R j}{a0 a1 a2}(e:gS L i=⟨f,m×o×p,ρ,un3 F,A,R,j⟩)(hpf:O.pf=pfn:=by exact hpf)(hb:pfn f=true:=by rfl)(d:Q1d L i f=some (gS L i):=by rfl):∀a,F a0 a1 a2=some a->O.pf f=true/\(∀args H rs H',A (a0,a1,a2)=(args,H)->R (a0,a1,a2) a=.ret rs H'->O.C f args H=some (rs,H'))/\∀args H v,A (a0,a1,a2)=(args,H)->R (a0,a1,a2) a=.boom v->X f args H=some v:=by
 rw[e]at d
 exact λ_ q=>⟨pft hpf f hb,λ_ _ _ _ g l=>(hk i f d).ret (a0,a1,a2) q g l,λ_ _ _ g l=>(hk i f d).boom (a0,a1,a2) q g l⟩
end
end Go.Abs.U48
