import Derived.Test.YtljahlbklgnfhaaGreatDoorLB
set_option linter.unusedVariables false
set_option linter.unusedSimpArgs false
set_option linter.defProp false
namespace Go.Abs.U48
open Go.RowKit Go.Proofs
abbrev Y0:=Bool→Str→(List Token)→(List Str)→Int→Option (Int ⊕ (Cmd×Int))
abbrev Y1:=Str→(List Token)→(List Str)→Int→Option (Int ⊕ (Word×Int))
abbrev Y2:=Str→(List Token)→(List Str)→Int→Int→Int→Option (Word×Int×Int×Int)
abbrev Y3:=Str→(List Token)→(List Str)→Int→Int→Int→Option (Cmd×Int×Int×Int)
abbrev Y4:=(List Word)→(List Word)→Option (Bool)
abbrev Y5:=Cmd→Str→(List Redir)→Option (Str×(List Redir))
abbrev Y6:=(List Cmd)→(List Cmd)→Option (Bool)
abbrev Y7:=(List Cmd)→Option (Int)
abbrev Y8:=Cmd→Option (Bool)
abbrev Y9:=(List Word)→Option (Int)
abbrev Y10:=Word→Option (Int)
abbrev Y11:=Cmd→Option (Int)
abbrev V0(x0:Str)(x1:Int)(x2 x3:Nat)(x4 x5 x6:Int):AObj:=AObj.var [.pv (.str x0),.pv (.int .i64 x1),.vec 1 x2,.vec 2 x3,.pv (.int .i64 x4),.pv (.int .i64 x5),.pv (.int .i64 x6)]
abbrev V1(x:Token):AObj:=AObj.var [.pv (.int .i64 x.kind_),.pv (.int .i64 x.at_),.pv (.str x.text_),.pv (.str x.quoted_)]
abbrev V2(x0 x1:Int)(x2 x3:Str):PV:=PV.agg [.int .i64 x0,.int .i64 x1,.str x2,.str x3]
abbrev V3(x0:Str)(x1:Int)(x2:Nat)(x3 x4 x5:Int):AObj:=AObj.var [.pv (.str x0),.pv (.int .i64 x1),.vec 1 x2,.nils,.pv (.int .i64 x3),.pv (.int .i64 x4),.pv (.int .i64 x5)]
abbrev V4(x0:Str)(x1:List Token)(x2:List Str)(x3:Int):AObj:=AObj.var [.pv (.str x0),.pv (.slice (List.map Token.pv x1)),.pv (.slice (List.map PV.str x2)),.pv (.int .i64 x3)]
abbrev V5(x0 x1:Int)(x2:Str):AObj:=AObj.var [.pv (.int .i64 x0),.pv (.int .i64 x1),.pv (.str x2),.nils,.nils,.nils]
abbrev V6(x:Token):PV:=PV.agg [.int .i64 x.kind_,.int .i64 x.at_,.str x.text_,.str x.quoted_]
abbrev V7(x:Cmd):PV:=PV.agg [.int .i64 x.kind_,.int .i64 x.at_,.str x.name_,.slice (List.map Word.pv x.words_),.slice (List.map Redir.pv x.redirs_),.slice (List.map Cmd.pv x.kids_)]
abbrev V8(x0 x1:Int)(x2:Str)(x3:List Word)(x4:List Redir)(x5:List Cmd):AObj:=AObj.var [.pv (.int .i64 x0),.pv (.int .i64 x1),.pv (.str x2),.pv (.slice (List.map Word.pv x3)),.pv (.slice (List.map Redir.pv x4)),.pv (.slice (List.map Cmd.pv x5))]
abbrev V9(x:Cmd):AObj:=AObj.var [.pv (.int .i64 x.kind_),.pv (.int .i64 x.at_),.pv (.str x.name_),.pv (.slice (List.map Word.pv x.words_)),.pv (.slice (List.map Redir.pv x.redirs_)),.pv (.slice (List.map Cmd.pv x.kids_))]
abbrev V10(x0 x1 x2 x3:Int)(x4 x5:Str)(x6:Bool):AObj:=AObj.var [.pv (.int .i64 x0),.pv (.int .i64 x1),.pv (.int .i64 x2),.pv (.int .i64 x3),.pv (.str x4),.pv (.str x5),.nils,.nils,.pv (.bool x6)]
abbrev V11(x0 x1 x2 x3:Int)(x4 x5:Str)(x6:List Word)(x7:List Cmd)(x8:Bool):AObj:=AObj.var [.pv (.int .i64 x0),.pv (.int .i64 x1),.pv (.int .i64 x2),.pv (.int .i64 x3),.pv (.str x4),.pv (.str x5),.pv (.slice (List.map Word.pv x6)),.pv (.slice (List.map Cmd.pv x7)),.pv (.bool x8)]
abbrev V12(x0 x1:Int)(x2:Str)(x3:List Cmd):AObj:=AObj.var [.pv (.int .i64 x0),.pv (.int .i64 x1),.pv (.str x2),.nils,.nils,.pv (.slice (List.map Cmd.pv x3))]
abbrev V13(x0 x1:Int)(x2:Str)(x3:Nat)(x4:List Cmd):AObj:=AObj.var [.pv (.int .i64 x0),.pv (.int .i64 x1),.pv (.str x2),.nils,.vec 3 x3,.pv (.slice (List.map Cmd.pv x4))]
abbrev V14(x:Word):PV:=PV.agg [.int .i64 x.kind_,.str x.text_,.str x.quoted_,.slice (List.map Word.pv x.words_),.slice (List.map Cmd.pv x.cmd_)]
abbrev V15(x:Redir):PV:=PV.agg [.int .i64 x.kind_,.int .i64 x.fd_,.int .i64 x.from_,.int .i64 x.word_.kind_,.str x.word_.text_,.str x.word_.quoted_,.slice (List.map Word.pv x.word_.words_),.slice (List.map Cmd.pv x.word_.cmd_),.bool x.raw_]
abbrev V16(x0 x1:Int)(x2:Str)(x3:Nat):AObj:=AObj.var [.pv (.int .i64 x0),.pv (.int .i64 x1),.pv (.str x2),.vec 3 x3,.nils,.nils]
abbrev V17(x0 x1:Int)(x2:Str)(x3 x4:Nat):AObj:=AObj.var [.pv (.int .i64 x0),.pv (.int .i64 x1),.pv (.str x2),.vec 3 x3,.vec 4 x4,.nils]
abbrev V18(x0:Int)(x1 x2:Str):AObj:=AObj.var [.pv (.int .i64 x0),.pv (.str x1),.pv (.str x2),.nils,.nils]
abbrev V19(x0:Int)(x1 x2:Str)(x3:List Word)(x4:List Cmd):AObj:=AObj.var [.pv (.int .i64 x0),.pv (.str x1),.pv (.str x2),.pv (.slice (List.map Word.pv x3)),.pv (.slice (List.map Cmd.pv x4))]
abbrev V20(x:Redir):AObj:=AObj.var [.pv (.int .i64 x.kind_),.pv (.int .i64 x.fd_),.pv (.int .i64 x.from_),.pv (.int .i64 x.word_.kind_),.pv (.str x.word_.text_),.pv (.str x.word_.quoted_),.pv (.slice (List.map Word.pv x.word_.words_)),.pv (.slice (List.map Cmd.pv x.word_.cmd_)),.pv (.bool x.raw_)]
abbrev V21(x:Word):AObj:=AObj.var [.pv (.int .i64 x.kind_),.pv (.str x.text_),.pv (.str x.quoted_),.pv (.slice (List.map Word.pv x.words_)),.pv (.slice (List.map Cmd.pv x.cmd_))]
abbrev V22(x0:Int)(x1:Nat)(x2:Int)(x3:Bool)(x4:Nat)(x5 x6:Int):AObj:=AObj.var [.pv (.int .i64 x0),.vec 0 x1,.pv (.int .i64 x2),.pv (.bool x3),.vec 1 x4,.pv (.int .i64 x5),.pv (.int .i64 x6)]
abbrev V23(x0 x1:Int)(x2:Bool)(x3 x4:Int):AObj:=AObj.var [.pv (.int .i64 x0),.nils,.pv (.int .i64 x1),.pv (.bool x2),.nils,.pv (.int .i64 x3),.pv (.int .i64 x4)]
abbrev V24(x0 x1:Str)(x2:Int)(x3:Bool):AObj:=AObj.var [.pv (.str x0),.pv (.str x1),.pv (.int .i64 x2),.pv (.bool x3)]
abbrev V25(x:Part):AObj:=AObj.var [.pv (.str x.text_),.pv (.str x.quoted_),.pv (.int .i64 x.to_),.pv (.bool x.ok_)]
abbrev V26(x0:Int)(x1:Nat)(x2:Int)(x3:Bool)(x4:Nat)(x5 x6:Int):AObj:=AObj.var [.pv (.int .i64 x0),.vec 1 x1,.pv (.int .i64 x2),.pv (.bool x3),.vec 2 x4,.pv (.int .i64 x5),.pv (.int .i64 x6)]
abbrev V27(x0:Str)(x1:List Token)(x2:List Str)(x3 x4 x5:Int):AObj:=AObj.var [.pv (.str x0),.pv (.slice (List.map Token.pv x1)),.pv (.slice (List.map PV.str x2)),.pv (.int .i64 x3),.pv (.int .i64 x4),.pv (.int .i64 x5)]
abbrev V28(x0 x1:Int)(x2:Str)(x3 x4:Nat):AObj:=AObj.var [.pv (.int .i64 x0),.pv (.int .i64 x1),.pv (.str x2),.nils,.vec 1 x3,.vec 4 x4]
abbrev V29(x0 x1:Int)(x2:Str)(x3:List Word)(x4 x5:Nat):AObj:=AObj.var [.pv (.int .i64 x0),.pv (.int .i64 x1),.pv (.str x2),.pv (.slice (List.map Word.pv x3)),.vec 1 x4,.vec 4 x5]
abbrev V30(x0 x1:Int)(x2:Str)(x3:List Word):AObj:=AObj.var [.pv (.int .i64 x0),.pv (.int .i64 x1),.pv (.str x2),.pv (.slice (List.map Word.pv x3)),.nils,.nils]
abbrev V31(x0 x1:Int)(x2:Str)(x3 x4:Nat):AObj:=AObj.var [.pv (.int .i64 x0),.pv (.int .i64 x1),.pv (.str x2),.vec 4 x3,.vec 1 x4,.nils]
abbrev V32(x0 x1:Int)(x2:Str)(x3:Nat):AObj:=AObj.var [.pv (.int .i64 x0),.pv (.int .i64 x1),.pv (.str x2),.nils,.vec 3 x3,.nils]
abbrev V33(x0 x1:Int)(x2:Str)(x3:Nat)(x4:List Cmd):AObj:=AObj.var [.pv (.int .i64 x0),.pv (.int .i64 x1),.pv (.str x2),.nils,.vec 4 x3,.pv (.slice (List.map Cmd.pv x4))]
abbrev vC(x:List Cmd):AV:=.pv (.slice (List.map Cmd.pv x))
abbrev vRe(x:List Redir):AV:=.pv (.slice (List.map Redir.pv x))
abbrev vTo(x:List Token):AV:=.pv (.slice (List.map Token.pv x))
abbrev vWo(x:List Word):AV:=.pv (.slice (List.map Word.pv x))
abbrev rSt(x:List Str):AObj:=.row 9 1 (List.map PV.str x) true
abbrev rTo(x:List Token):AObj:=.row 87 4 (List.map Token.pv x) true
abbrev rRe(x:List Redir):AObj:=.row 51 9 (List.map Redir.pv x) true
abbrev rWo(x:List Word):AObj:=.row 49 5 (List.map Word.pv x) true
abbrev rCm(x:List Cmd):AObj:=.row 36 6 (List.map Cmd.pv x) true
def J7m(F:Str→Option (Str)):Spec:=mkS 36 F (fun b=>([.ref 0 0],[.bld b])) (fun b s=>.ret [as_ s] [.gone])
def Z4w:Spec:=J7m Q8l
def Z8u(F:Str→Int→Option (Int)):Spec:=mkS 40 (un2 F) (fun(s,c)=>([as_ s,.pv (.int .u8 c)],[])) (fun(s,c) n=>.ret [ai n] [])
def Q0x:Spec:=Z8u Q0m
def X4x(F:(List Str)→Str→Option (Str)):Spec:=mkS 119 (un2 F) (fun(xs,sep)=>([.pv (.slice (List.map PV.str xs)),as_ sep],[])) (fun(xs,sep) s=>.ret [as_ s] [])
def X1m:Spec:=X4x J4t
def Z8s(F:Str→Int→Option (Str)):Spec:=mkS 121 (un2 F) (fun(b,c)=>([.ref 0 0,.pv (.int .u8 c)],[.bld b])) (fun(b,c) d=>.ret [.pv (.nil)] [.bld d])
def Q7u:Spec:=Z8s Q3e
def Z4v(F:Str→Str→Option (Int×Str)):Spec:=mkS 123 (un2 F) (fun(b,s)=>([.ref 0 0,as_ s],[.bld b])) (fun(b,s) (n,c)=>.ret [ai n,.pv (.nil)] [.bld c])
def Q5p:Spec:=Z4v Q2i
def J7n(F:Str→Int→Option (Str)):Spec:=mkS 124 (un2 F) (fun(s,n)=>([as_ s,ai n],[])) (fun(s,n) t=>.ret [as_ t] [])
def Z0q:Spec:=J7n Q5j
def K0h(F:Str→Str→Option (Str×Str×Bool)):Spec:=mkS 161 (un2 F) (fun(s,sep)=>([as_ s,as_ sep],[])) (fun(s,sep) (a,b,ok)=>.ret [as_ a,as_ b,ab ok] [])
def J4r:Spec:=K0h Z5y
def Z8t(F:Str→Str→Option (Bool)):Spec:=mkS 169 (un2 F) (fun(s,p)=>([as_ s,as_ p],[])) (fun(s,p) ok=>.ret [ab ok] [])
def Z2i:Spec:=Z8t Q4m
def X4y(F:Int→Option (Str)):Spec:=mkS 189 F (fun n=>([ai n],[])) (fun n s=>.ret [as_ s] [])
def X1n:Spec:=X4y J4u
def X4z(F:Str→Option (Int×Bool)):Spec:=mkS 199 F (fun s=>([as_ s],[])) (fun s (n,bad)=>.ret [ai n,.pv ((bif bad then PV.ifc else PV.nil))] [])
def J2y:Spec:=X4z J1c
def Z5x(F:Str→Str→Str→Option (Str)):Spec:=mkS 216 (un3 F) (fun(s,a,b)=>([as_ s,as_ a,as_ b],[])) (fun(s,a,b) t=>.ret [as_ t] [])
def Z0p:Spec:=Z5x Q5i
def F74(s1 prefix2:Str):Option Bool:=
 (Q0e (decide ((prefix2.length:Int)≤(s1.length:Int))) (Q0t s1 0 (prefix2.length:Int))).bind fun t4=>
 some (decide ((prefix2.length:Int)≤(s1.length:Int))&&decide (t4=prefix2))
def SQ0(n:FuncId)(F:Str→Str→Option (Bool)):Spec:=mkS n (un2 F) (fun(a,b)=>([as_ a,as_ b],[])) (fun(a,b) c=>.ret [ab c] [])
def S74:=SQ0 74 F74
def F42(s1 prefix2:Str):Option Bool:=
 (F74 s1 prefix2).bind fun r4=>
 some r4
def S42:=SQ0 42 F42
def Q5s(s1:Str)(again8:(Int×(List Str)×(List Int))→Option ((List Str)×(List Int))):(Int×(List Str)×(List Int))→Option ((List Str)×(List Int)):=fun(at5,l6,l7)=>
 (bif decide (at5<(s1.length:Int))then
  (Q0t s1 at5 (s1.length:Int)).bind fun t12=>
  (Z5y t12 [10]).bind fun(a15,b16,ok17)=>
  (appO 16 l6 [a15]).bind fun out21=>
  (appO 8 l7 [(bif ok17 then IntKind.wrap .i64 ((IntKind.wrap .i64 (at5+(a15.length:Int)))+1)else IntKind.wrap .i64 (at5+(a15.length:Int)))]).bind fun out24=>
  again8 ((bif ok17 then IntKind.wrap .i64 ((IntKind.wrap .i64 (at5+(a15.length:Int)))+1)else IntKind.wrap .i64 (at5+(a15.length:Int))),out21,out24)
 else
  some (l6,l7))
def F117(s1:Str)(at2:Int):Option ((List Str)×(List Int)):=
 iter (Q5s s1) BIG (at2,([]:List Str),([]:List Int))
def S117:Spec:=mkS 117 (un2 F117) (fun(a,b)=>([as_ a,ai b],[])) (fun(a,b) (c,d)=>.ret [.pv (.slice (List.map PV.str c)),.pv (.slice (List.map (PV.int .i64) d))] [])
def X2y(s1:List Str)(v2:Str)(again5:Int→Option Int):Int→Option Int:=fun i4=>
 (bif decide (i4<(s1.length:Int))then
  (lidx s1 i4).bind fun w9=>
  (bif decide (v2=w9)then
   some i4
  else
   again5 (IntKind.wrap .i64 (i4+1)))
 else
  some (-1))
def F118(s1:List Str)(v2:Str):Option Int:=
 iter (X2y s1 v2) BIG 0
def S118:Spec:=mkS 118 (un2 F118) (fun(a,b)=>([.pv (.slice (List.map PV.str a)),as_ b],[])) (fun(a,b) c=>.ret [ai c] [])
def F72(s1:Str)(at2:Int)(end3:Str):Option (Str×Int×Int):=
 (bif (decide (at2<0)||decide ((s1.length:Int)<at2))then
  some ([],0,1)
 else
  (F117 s1 at2).bind fun(r8,r9)=>
  (F118 r8 end3).bind fun r12=>
  (bif decide (r12<0)then
   some ([],0,3)
  else
   (bif decide (0<r12)then
    (J0j r8 0 r12).bind fun l17=>
    (J4t l17 [10]).bind fun s20=>
    (catO s20 [10]).bind fun s23=>
    (lidx r9 r12).bind fun n26=>
    some (s23,n26,0)
   else
    (lidx r9 r12).bind fun n29=>
    some ([],n29,0))))
def SQ1(n:FuncId)(F:Str→Int→Str→Option (Str×Int×Int)):Spec:=mkS n (un3 F) (fun(a,b,c)=>([as_ a,ai b,as_ c],[])) (fun(a,b,c) (d,e,f)=>.ret [as_ d,ai e,ai f] [])
def S72:=SQ1 72 F72
def Z8y(off1 e2:Int)(x3:Str)(x4 x5 x6 x7:Int)(l8:List Token)(l9:List Str):Option (Bool×Int×Int):=
 some (false,off1,e2)
def J1a:Spec:=mkS 73 (un9 Z8y) (fun(a,b,c,d,e,f,g,h,i)=>([.ref 0 0,ai a,ai b],[V0 c d h.length i.length e f g,rTo h,rSt i])) (fun(a,b,c,d,e,f,g,h,i) (j,k,l)=>.ret [ab j] [V0 c d h.length i.length e k l,rTo h,rSt i])
def Z8z(t1:Token)(x2:Str)(x3 x4 x5 x6:Int)(l7:List Token)(l8:List Str):Option (Bool×Int×Int×(List Token)):=
 (bif decide (1024≤(l7.length:Int))then
  (Z8y t1.at_ 4 x2 x3 x4 x5 x6 l7 l8).bind fun(r14,x15,x16)=>
  some (r14,x15,x16,l7)
 else
  (appO 48 l7 [t1]).bind fun out20=>
  some (true,x5,x6,out20))
def J7o:Spec:=mkS 71 (un8 Z8z) (fun(a,b,c,d,e,f,g,h)=>([.ref 0 0,.pv (PV.agg [.int .i64 a.kind_,.int .i64 a.at_,.str a.text_,.str a.quoted_])],[V0 b c g.length h.length d e f,rTo g,rSt h])) (fun(a,b,c,d,e,f,g,h) (i,j,k,l)=>.ret [ab i] [V0 b c l.length h.length d j k,rTo l,rSt h])
def Z5z(x1:Str)(x2 x3 x4 x5:Int)(l6:List Token)(l7:List Str):Option Str:=
 (Q0t x1 x2 (x1.length:Int)).bind fun t9=>
 some t9
def J1b:Spec:=mkS 39 (un7 Z5z) (fun(a,b,c,d,e,f,g)=>([.ref 0 0],[V0 a b f.length g.length c d e,rTo f,rSt g])) (fun(a,b,c,d,e,f,g) h=>.ret [as_ h] [V0 a b f.length g.length c d e,rTo f,rSt g])
def J5h(x1:Str)(x3 x4 x5:Int)(l6:List Token)(l7:List Str)(again10:Int→Option Int):Int→Option Int:=fun x9=>
 (Z5z x1 x9 x3 x4 x5 l6 l7).bind fun r13=>
 (F42 r13 [32]).bind fun r17=>
 (Q0e (!r17) (F42 r13 [9])).bind fun r20=>
 (bif (r17||r20)then
  again10 (IntKind.wrap .i64 (x9+1))
 else
  (F42 r13 [92,10]).bind fun r24=>
  (bif r24 then
   again10 (IntKind.wrap .i64 (x9+2))
  else
   some x9))
def X2e(x1:Str)(x2 x3 x4 x5:Int)(l6:List Token)(l7:List Str):Option Int:=
 iter (J5h x1 x3 x4 x5 l6 l7) BIG x2
def X5d:Spec:=mkS 38 (un7 X2e) (fun(a,b,c,d,e,f,g)=>([.ref 0 0],[V0 a b f.length g.length c d e,rTo f,rSt g])) (fun(a,b,c,d,e,f,g) h=>.ret [] [V0 a h f.length g.length c d e,rTo f,rSt g])
def J5g(l7:List Str)(x1:Str)(x3 x15 x16:Int)(o17:List Token)(again24:(Int×Int)→Option (Bool×Bool×Int×Int×Int×(List Token))):(Int×Int)→Option (Bool×Bool×Int×Int×Int×(List Token)):=fun(i22,x23)=>
 (bif decide (i22<(l7.length:Int))then
  (lidx l7 i22).bind fun w28=>
  (F72 x1 x23 w28).bind fun(r31,r32,r33)=>
  (bif !decide (r33=0)then
   (Z8y x23 r33 x1 x23 x3 x15 x16 o17 l7).bind fun(r37,x38,x39)=>
   some (false,r37,x23,x38,x39,o17)
  else
   again24 (IntKind.wrap .i64 (i22+1),r32))
 else
  some (true,true,x23,x15,x16,o17))
def X5m(x1:Str)(x2 x3 x4 x5:Int)(l6:List Token)(l7:List Str):Option (Bool×Bool×Int×Int×Int×(List Token)):=
 (Z8z (Token.mk 3 x2 [10] []) x1 x2 x3 x4 x5 l6 l7).bind fun(r14,x15,x16,o17)=>
 (bif !r14 then
  some (false,false,x2,x15,x16,o17)
 else
  iter (J5g l7 x1 x3 x15 x16 o17) BIG (0,IntKind.wrap .i64 (x2+1)))
def K0j:Spec:=mkS 41 (un7 X5m) (fun(a,b,c,d,e,f,g)=>([.ref 0 0],[V0 a b f.length g.length c d e,rTo f,rSt g])) (fun(a,b,c,d,e,f,g) (h,i,j,k,l,m)=>.ret [ab i] (bif h then[V3 a j m.length c k l,rTo m,rSt g]else[V0 a j m.length g.length c k l,rTo m,rSt g]))
def J5r(x1:Str)(x2 x3 x4 x5:Int)(l6:List Token)(l7:List Str):Option Bool:=
 (Z5z x1 x2 x3 x4 x5 l6 l7).bind fun r9=>
 (Q0e (!decide (r9=[])) (sidx r9 0)).bind fun c13=>
 (Q0e (!decide (r9=[])) (Q0m [32,9,10,59,38,124,40,41,123,125,60,62,61,94,96,36,39] c13)).bind fun n16=>
 (Q0e (!decide (r9=[])&&decide (n16<0)) (F42 r9 [92,10])).bind fun r19=>
 some ((!decide (r9=[])&&decide (n16<0))&&!r19)
def SQ2(n:FuncId)(F:Str→Int→Int→Int→Int→(List Token)→(List Str)→Option (Bool)):Spec:=mkS n (un7 F) (fun(a,b,c,d,e,f,g)=>([.ref 0 0],[V0 a b f.length g.length c d e,rTo f,rSt g])) (fun(a,b,c,d,e,f,g) h=>.ret [ab h] [V0 a b f.length g.length c d e,rTo f,rSt g])
def X1p:=SQ2 120 J5r
def J1k(x1:Str)(x3 x4 x5:Int)(l6:List Token)(l7:List Str)(x2:Int)(again15:(Int×Str)→Option (Str×Bool×Int×Int×Int)):(Int×Str)→Option (Str×Bool×Int×Int×Int):=fun(x13,b14)=>
 (Z5z x1 x13 x3 x4 x5 l6 l7).bind fun r18=>
 (Q0m r18 39).bind fun n22=>
 (bif decide (n22<0)then
  (Z8y x2 48 x1 x13 x3 x4 x5 l6 l7).bind fun(r26,x27,x28)=>
  some ([],r26,x13,x27,x28)
 else
  (Q0t x1 x13 (IntKind.wrap .i64 (x13+n22))).bind fun t32=>
  (Q2i b14 t32).bind fun(n35,c36)=>
  (Z5z x1 (IntKind.wrap .i64 (x13+(IntKind.wrap .i64 (n22+1)))) x3 x4 x5 l6 l7).bind fun r40=>
  (F42 r40 [39]).bind fun r44=>
  (bif !r44 then
   (Q8l c36).bind fun s48=>
   some (s48,true,(IntKind.wrap .i64 (x13+(IntKind.wrap .i64 (n22+1)))),x4,x5)
  else
   (Q3e c36 39).bind fun d52=>
   again15 (IntKind.wrap .i64 ((IntKind.wrap .i64 (x13+(IntKind.wrap .i64 (n22+1))))+1),d52)))
def J5q(x1:Str)(x2 x3 x4 x5:Int)(l6:List Token)(l7:List Str):Option (Str×Bool×Int×Int×Int):=
 iter (J1k x1 x3 x4 x5 l6 l7 x2) BIG (IntKind.wrap .i64 (x2+1),[])
def X1o:Spec:=mkS 122 (un7 J5q) (fun(a,b,c,d,e,f,g)=>([.ref 0 0],[V0 a b f.length g.length c d e,rTo f,rSt g])) (fun(a,b,c,d,e,f,g) (h,i,j,k,l)=>.ret [as_ h,ab i] [V0 a j f.length g.length c k l,rTo f,rSt g])
def J5c(x1:Str)(x3:Int)(l6:List Token)(l7:List Str)(again19:(Int×Int×Int×Str×Str)→Option (Str×Str×Bool×Int×Int×Int)):(Int×Int×Int×Str×Str)→Option (Str×Str×Bool×Int×Int×Int):=fun(x14,x15,x16,b17,b18)=>
 (J5r x1 x14 x3 x15 x16 l6 l7).bind fun r22=>
 (bif r22 then
  (sidx x1 x14).bind fun c27=>
  (Q3e b17 c27).bind fun d30=>
  (Q3e b18 48).bind fun d34=>
  again19 (IntKind.wrap .i64 (x14+1),x15,x16,d30,d34)
 else
  (Z5z x1 x14 x3 x15 x16 l6 l7).bind fun r38=>
  (F42 r38 [39]).bind fun r42=>
  (bif r42 then
   (J5q x1 x14 x3 x15 x16 l6 l7).bind fun(r46,r47,x48,x49,x50)=>
   (bif !r47 then
    some ([],[],false,x48,x49,x50)
   else
    (Q2i b17 r46).bind fun(n55,c56)=>
    (Q5j [49] (r46.length:Int)).bind fun t60=>
    (Q2i b18 t60).bind fun(n63,c64)=>
    again19 (x48,x49,x50,c56,c64))
  else
   (Q8l b17).bind fun s68=>
   (Q8l b18).bind fun s72=>
   some (s68,s72,true,x14,x15,x16)))
def X2b(x1:Str)(x2 x3 x4 x5:Int)(l6:List Token)(l7:List Str):Option (Str×Str×Bool×Int×Int×Int):=
 iter (J5c x1 x3 l6 l7) BIG (x2,x4,x5,[],[])
def X5b:Spec:=mkS 75 (un7 X2b) (fun(a,b,c,d,e,f,g)=>([.ref 0 0],[V0 a b f.length g.length c d e,rTo f,rSt g])) (fun(a,b,c,d,e,f,g) (h,i,j,k,l,m)=>.ret [as_ h,as_ i,ab j] [V0 a k f.length g.length c l m,rTo f,rSt g])
def X5l(x1:Str)(x2 x3 x4 x5:Int)(l6:List Token)(l7:List Str):Option (Bool×Int×Int×Int×(List Token)×(List Str)):=
 (X2e x1 (IntKind.wrap .i64 (x2+2)) x3 x4 x5 l6 l7).bind fun x14=>
 (X2b x1 x14 x3 x4 x5 l6 l7).bind fun(r18,r19,r20,x21,x22,x23)=>
 (bif !r20 then
  some (false,x21,x22,x23,l6,l7)
 else
  (bif decide (x21=x14)then
   (Z8y x14 47 x1 x21 x3 x22 x23 l6 l7).bind fun(r29,x30,x31)=>
   some (r29,x21,x30,x31,l6,l7)
  else
   (appO 16 l7 [r18]).bind fun out35=>
   (Z8z (Token.mk 4 x2 r18 r19) x1 x21 x3 x22 x23 l6 out35).bind fun(r38,x39,x40,o41)=>
   some (r38,x21,x39,x40,o41,out35)))
def K0i:Spec:=mkS 43 (un7 X5l) (fun(a,b,c,d,e,f,g)=>([.ref 0 0],[V0 a b f.length g.length c d e,rTo f,rSt g])) (fun(a,b,c,d,e,f,g) (h,i,j,k,l,m)=>.ret [ab h] [V0 a i l.length m.length c j k,rTo l,rSt m])
def F76(x1:Str)(x2 x3 x4 x5:Int)(l6:List Token)(l7:List Str):Option Bool:=
 (Q0e (decide (0<(l6.length:Int))) (lidx l6 (IntKind.wrap .i64 ((l6.length:Int)-1)))).bind fun u9=>
 some ((decide (0<(l6.length:Int))&&decide (u9.kind_=1))&&decide (x3=x2))
def S76:=SQ2 76 F76
def F166(s1:Str):Option Bool:=
 (J1c s1).bind fun(n3,bad4)=>
 (Q0e ((!bad4&&decide (0≤n3))&&decide (n3<64)) (J4u n3)).bind fun s7=>
 some (((!bad4&&decide (0≤n3))&&decide (n3<64))&&decide (s7=s1))
def SQ3(n:FuncId)(F:Str→Option (Bool)):Spec:=mkS n F (fun a=>([as_ a],[])) (fun a b=>.ret [ab b] [])
def S166:=SQ3 166 F166
def F125(s1:Str)(pair2:Bool):Option Int:=
 (Q0m s1 93).bind fun n4=>
 (bif decide (n4<0)then
  some 0
 else
  (Q0t s1 1 n4).bind fun t8=>
  (Z5y t8 [61]).bind fun(a11,b12,ok13)=>
  (F166 a11).bind fun r16=>
  (Q0e (((r16&&ok13)&&pair2)&&!decide (b12=[])) (F166 b12)).bind fun r19=>
  (bif (!r16||(ok13&&(!pair2||(!decide (b12=[])&&!r19))))then
   some 0
  else
   some (IntKind.wrap .i64 (n4+1))))
def S125:Spec:=mkS 125 (un2 F125) (fun(a,b)=>([as_ a,ab b],[])) (fun(a,b) c=>.ret [ai c] [])
def X7g(r12:Str)(x4 x5 x2:Int)(x1:Str)(x3:Int)(l6:List Token)(l7:List Str)(again40:Int→Option (Str×Bool×Int×Int)):Int→Option (Str×Bool×Int×Int):=fun i39=>
 (bif decide (i39<([[62,62],[62],[60],[124]].length:Int))then
  (lidx [[62,62],[62],[60],[124]] i39).bind fun w44=>
  (F42 r12 w44).bind fun r47=>
  (bif !r47 then
   again40 (IntKind.wrap .i64 (i39+1))
  else
   (Q0t r12 (w44.length:Int) (r12.length:Int)).bind fun t51=>
   (F42 t51 [91]).bind fun r54=>
   (bif !r54 then
    some (w44,true,x4,x5)
   else
    (F125 t51 (!decide (w44=[124]))).bind fun r58=>
    (bif decide (r58=0)then
     (Z8y (IntKind.wrap .i64 (x2+(w44.length:Int))) 47 x1 x2 x3 x4 x5 l6 l7).bind fun(r62,x63,x64)=>
     some ([],r62,x63,x64)
    else
     (Q0t r12 0 (IntKind.wrap .i64 ((w44.length:Int)+r58))).bind fun t68=>
     some (t68,true,x4,x5))))
 else
  some ([],true,x4,x5))
def X7h(r12:Str)(x4 x5 x2:Int)(x1:Str)(x3:Int)(l6:List Token)(l7:List Str)(again17:Int→Option (Str×Bool×Int×Int)):Int→Option (Str×Bool×Int×Int):=fun i16=>
 (bif decide (i16<([[38,38],[124,124],[36,35]].length:Int))then
  (lidx [[38,38],[124,124],[36,35]] i16).bind fun w21=>
  (F42 r12 w21).bind fun r24=>
  (bif r24 then
   some (w21,true,x4,x5)
  else
   again17 (IntKind.wrap .i64 (i16+1)))
 else
  (bif decide (r12=[])then
   some ([],true,x4,x5)
  else
   (sidx r12 0).bind fun c29=>
   (Q0m [59,38,40,41,123,125,61,94,96,36,33,64] c29).bind fun n32=>
   (bif decide (0≤n32)then
    (Q0t r12 0 1).bind fun t36=>
    some (t36,true,x4,x5)
   else
    iter (X7g r12 x4 x5 x2 x1 x3 l6 l7) BIG 0)))
def F77(x1:Str)(x2 x3 x4 x5:Int)(l6:List Token)(l7:List Str):Option (Str×Bool×Int×Int):=
 (Z5z x1 x2 x3 x4 x5 l6 l7).bind fun r12=>
 iter (X7h r12 x4 x5 x2 x1 x3 l6 l7) BIG 0
def S77:Spec:=mkS 77 (un7 F77) (fun(a,b,c,d,e,f,g)=>([.ref 0 0],[V0 a b f.length g.length c d e,rTo f,rSt g])) (fun(a,b,c,d,e,f,g) (h,i,j,k)=>.ret [as_ h,ab i] [V0 a b f.length g.length c j k,rTo f,rSt g])
def F78(t1:Token)(touches2:Bool)(x3:Str)(x4 x5 x6 x7:Int)(l8:List Token)(l9:List Str):Option (Bool×Int×Int×(List Token)):=
 (Q0e (!(decide (t1.kind_=1))&&(decide (t1.kind_=2)&&!decide (t1.text_=[]))) (sidx t1.text_ 0)).bind fun c14=>
 (Q0e (!(decide (t1.kind_=1))&&(decide (t1.kind_=2)&&!decide (t1.text_=[]))) (Q0m [36,96] c14)).bind fun n17=>
 (bif (touches2&&(decide (t1.kind_=1)||((decide (t1.kind_=2)&&!decide (t1.text_=[]))&&decide (0≤n17))))then
  (Z8z (Token.mk 2 t1.at_ [94] []) x3 x4 x5 x6 x7 l8 l9).bind fun(r20,x21,x22,o23)=>
  (bif !r20 then
   some (false,x21,x22,o23)
  else
   (Z8z t1 x3 x4 x5 x21 x22 o23 l9).bind fun(r28,x29,x30,o31)=>
   some (r28,x29,x30,o31))
 else
  (Z8z t1 x3 x4 x5 x6 x7 l8 l9).bind fun(r21,x22,x23,o24)=>
  some (r21,x22,x23,o24))
def S78:Spec:=mkS 78 (un9 F78) (fun(a,b,c,d,e,f,g,h,i)=>([.ref 0 0,.pv (PV.agg [.int .i64 a.kind_,.int .i64 a.at_,.str a.text_,.str a.quoted_]),ab b],[V0 c d h.length i.length e f g,rTo h,rSt i])) (fun(a,b,c,d,e,f,g,h,i) (j,k,l,m)=>.ret [ab j] [V0 c d m.length i.length e k l,rTo m,rSt i])
def F126(c1:Int):Option Bool:=
 some (((((decide (97≤c1)&&decide (c1≤122))||(decide (65≤c1)&&decide (c1≤90)))||(decide (48≤c1)&&decide (c1≤57)))||decide (c1=95))||decide (c1=42))
def SQ4(n:FuncId)(F:Int→Option (Bool)):Spec:=mkS n F (fun a=>([.pv (.int .u8 a)],[])) (fun a b=>.ret [ab b] [])
def S126:=SQ4 126 F126
def X7f(x1:Str)(x2 x3 x4 x5:Int)(l6:List Token)(l7:List Str)(again14:Int→Option (Bool×Int×Int×Int×(List Token))):Int→Option (Bool×Int×Int×Int×(List Token)):=fun x13=>
 (Q0e (decide (x13<(x1.length:Int))) (sidx x1 x13)).bind fun c17=>
 (Q0e (decide (x13<(x1.length:Int))) (F126 c17)).bind fun r20=>
 (bif (decide (x13<(x1.length:Int))&&r20)then
  again14 (IntKind.wrap .i64 (x13+1))
 else
  (bif decide (x13=x2)then
   (Z8y x2 47 x1 x13 x3 x4 x5 l6 l7).bind fun(r25,x26,x27)=>
   some (r25,x13,x26,x27,l6)
  else
   (Q0t x1 x2 x13).bind fun t31=>
   (Q5j [48] (t31.length:Int)).bind fun t34=>
   (Z8z (Token.mk 1 x2 t31 t34) x1 x13 x3 x4 x5 l6 l7).bind fun(r37,x38,x39,o40)=>
   some (r37,x13,x38,x39,o40)))
def F79(x1:Str)(x2 x3 x4 x5:Int)(l6:List Token)(l7:List Str):Option (Bool×Int×Int×Int×(List Token)):=
 iter (X7f x1 x2 x3 x4 x5 l6 l7) BIG x2
def SQ5(n:FuncId)(F:Str→Int→Int→Int→Int→(List Token)→(List Str)→Option (Bool×Int×Int×Int×(List Token))):Spec:=mkS n (un7 F) (fun(a,b,c,d,e,f,g)=>([.ref 0 0],[V0 a b f.length g.length c d e,rTo f,rSt g])) (fun(a,b,c,d,e,f,g) (h,i,j,k,l)=>.ret [ab h] [V0 a i l.length g.length c j k,rTo l,rSt g])
def S79:=SQ5 79 F79
def F44(x1:Str)(x2 x3 x4 x5:Int)(l6:List Token)(l7:List Str):Option (Bool×Int×Int×Int×(List Token)):=
 (F76 x1 x2 x3 x4 x5 l6 l7).bind fun r13=>
 (F77 x1 x2 x3 x4 x5 l6 l7).bind fun(r17,r18,x19,x20)=>
 (bif !r18 then
  some (false,x2,x19,x20,l6)
 else
  (bif !decide (r17=[])then
   (F78 (Token.mk 2 x2 r17 []) r13 x1 (IntKind.wrap .i64 (x2+(r17.length:Int))) x3 x19 x20 l6 l7).bind fun(r26,x27,x28,o29)=>
   (bif !r26 then
    some (false,(IntKind.wrap .i64 (x2+(r17.length:Int))),x27,x28,o29)
   else
    (bif (decide (r17=[36])||decide (r17=[36,35]))then
     (F79 x1 (IntKind.wrap .i64 (x2+(r17.length:Int))) x3 x27 x28 o29 l7).bind fun(r35,x36,x37,x38,o39)=>
     some (r35,x36,x37,x38,o39)
    else
     some (true,(IntKind.wrap .i64 (x2+(r17.length:Int))),x27,x28,o29)))
  else
   (X2b x1 x2 x3 x19 x20 l6 l7).bind fun(r43,r44,r45,x46,x47,x48)=>
   (bif r45 then
    (F78 (Token.mk 1 x2 r43 r44) r13 x1 x46 x3 x47 x48 l6 l7).bind fun(r52,x53,x54,o55)=>
    some (r52,x46,x53,x54,o55)
   else
    some (false,x46,x47,x48,l6))))
def S44:=SQ5 44 F44
def X7p(s1:Str)(again12:(Int×Int×Int×Int×(List Token)×(List Str))→Option ((List Token)×Int×Int)):(Int×Int×Int×Int×(List Token)×(List Str))→Option ((List Token)×Int×Int):=fun(x6,x7,x8,x9,l10,l11)=>
 (bif decide (x9=0)then
  (X2e s1 x6 x6 x8 x9 l10 l11).bind fun x16=>
  (Z5z s1 x16 x6 x8 x9 l10 l11).bind fun r20=>
  (bif decide (r20=[])then
   (bif decide (0<(l11.length:Int))then
    some ([],(s1.length:Int),3)
   else
    some (l10,0,0))
  else
   (sidx r20 0).bind fun c26=>
   (bif decide (c26=35)then
    (Q0m r20 10).bind fun n30=>
    (bif decide (0≤n30)then
     again12 (IntKind.wrap .i64 ((IntKind.wrap .i64 (x16+(r20.length:Int)))+(IntKind.wrap .i64 (n30-(r20.length:Int)))),x6,x8,x9,l10,l11)
    else
     again12 (IntKind.wrap .i64 (x16+(r20.length:Int)),x6,x8,x9,l10,l11))
   else
    (bif decide (c26=10)then
     (X5m s1 x16 x6 x8 x9 l10 l11).bind fun(tag35,r36,x37,x38,x39,o40)=>
     (bif tag35 then
      again12 (x37,x6,x38,x39,o40,([]:List Str))
     else
      again12 (x37,x6,x38,x39,o40,l11))
    else
     (F42 r20 [60,60]).bind fun r44=>
     (bif r44 then
      (X5l s1 x16 x6 x8 x9 l10 l11).bind fun(r48,x49,x50,x51,o52,o53)=>
      again12 (x49,x6,x50,x51,o52,o53)
     else
      (F44 s1 x16 x6 x8 x9 l10 l11).bind fun(r57,x58,x59,x60,o61)=>
      again12 (x58,x6,x59,x60,o61,l11)))))
 else
  some ([],x8,x9))
def F19(s1:Str):Option ((List Token)×Int×Int):=
 (bif decide (65536<(s1.length:Int))then
  some ([],0,4)
 else
  iter (X7p s1) BIG (0,0,0,0,([]:List Token),([]:List Str)))
def SQ6(n:FuncId)(F:Str→Option ((List Token)×Int×Int)):Spec:=mkS n F (fun a=>([as_ a],[])) (fun a (b,c,d)=>.ret [.pv (.slice (List.map Token.pv b)),ai c,ai d] [])
def S19:=SQ6 19 F19
def Z2l(l9:List Int)(tokens2:List Token)(s1:Str)(again10:(Int×(List Str)×(List Int))→Option (List Str))(i7:Int)(again25:(Int×Int×(List Str))→Option (List Str)):(Int×Int×(List Str))→Option (List Str):=fun(at22,i23,l24)=>
 (bif decide (i23<(l9.length:Int))then
  (lidx l9 i23).bind fun n29=>
  (lidx tokens2 n29).bind fun u32=>
  (F72 s1 at22 u32.text_).bind fun(r35,r36,r37)=>
  (lidx l24 n29).bind fun w40=>
  again25 (r36,IntKind.wrap .i64 (i23+1),List.set l24 (Int.toNat n29) r35)
 else
  again10 (IntKind.wrap .i64 (i7+1),l24,([]:List Int)))
def Q7y(tokens2:List Token)(s1:Str)(again10:(Int×(List Str)×(List Int))→Option (List Str)):(Int×(List Str)×(List Int))→Option (List Str):=fun(i7,l8,l9)=>
 (bif decide (i7<(tokens2.length:Int))then
  (lidx tokens2 i7).bind fun u14=>
  (bif decide (u14.kind_=4)then
   (appO 8 l9 [i7]).bind fun out18=>
   again10 (IntKind.wrap .i64 (i7+1),l8,out18)
  else
   (bif decide (u14.kind_=3)then
    iter (Z2l l9 tokens2 s1 again10 i7) BIG (IntKind.wrap .i64 (u14.at_+1),0,l8)
   else
    again10 (IntKind.wrap .i64 (i7+1),l8,l9)))
 else
  some l8)
def F46(s1:Str)(tokens2:List Token):Option (List Str):=
 (mkO 16 (tokens2.length:Int)).bind fun u4=>
 iter (Q7y tokens2 s1) BIG (0,List.replicate (Int.toNat (tokens2.length:Int)) ([]:Str),([]:List Int))
def SQ7(n:FuncId)(F:Str→(List Token)→Option ((List Str))):Spec:=mkS n (un2 F) (fun(a,b)=>([as_ a,.pv (.slice (List.map Token.pv b))],[])) (fun(a,b) c=>.ret [.pv (.slice (List.map PV.str c))] [])
def S46:=SQ7 46 F46
def F84(ahead1:Int)(x2:Str)(x3:List Token)(x4:List Str)(x5:Int):Option Token:=
 (bif decide ((x3.length:Int)≤IntKind.wrap .i64 (x5+ahead1))then
  some (Token.mk 0 0 [] [])
 else
  (lidx x3 (IntKind.wrap .i64 (x5+ahead1))).bind fun u8=>
  some u8)
def S84:Spec:=mkS 84 (un5 F84) (fun(a,b,c,d,e)=>([.ref 0 0,ai a],[V4 b c d e])) (fun(a,b,c,d,e) f=>.ret [.pv (PV.agg [.int .i64 f.kind_,.int .i64 f.at_,.str f.text_,.str f.quoted_])] [V4 b c d e])
def F128(t1:Token)(symbol2:Str):Option Bool:=
 some (decide (t1.kind_=2)&&decide (t1.text_=symbol2))
def S128:Spec:=mkS 128 (un2 F128) (fun(a,b)=>([.pv (PV.agg [.int .i64 a.kind_,.int .i64 a.at_,.str a.text_,.str a.quoted_]),as_ b],[])) (fun(a,b) c=>.ret [ab c] [])
def F127(symbol1 x2:Str)(x3:List Token)(x4:List Str)(x5:Int):Option Bool:=
 (F84 0 x2 x3 x4 x5).bind fun r7=>
 (F128 r7 symbol1).bind fun r11=>
 some r11
def S127:Spec:=mkS 127 (un5 F127) (fun(a,b,c,d,e)=>([.ref 0 0,as_ a],[V4 b c d e])) (fun(a,b,c,d,e) f=>.ret [ab f] [V4 b c d e])
def Z5a(x1:Str)(x2:List Token)(x3:List Str)(x4:Int)(again8:Int→Option (Bool×Int)):Int→Option (Bool×Int):=fun x7=>
 (F84 0 x1 x2 x3 x7).bind fun r11=>
 (bif decide (r11.kind_=3)then
  again8 (IntKind.wrap .i64 (x7+1))
 else
  (F127 [59] x1 x2 x3 x7).bind fun r15=>
  (bif r15 then
   again8 (IntKind.wrap .i64 (x7+1))
  else
   some (decide (x4<x7),x7)))
def F80(x1:Str)(x2:List Token)(x3:List Str)(x4:Int):Option (Bool×Int):=
 iter (Z5a x1 x2 x3 x4) BIG x4
def S80:Spec:=mkS 80 (un4 F80) (fun(a,b,c,d)=>([.ref 0 0],[V4 a b c d])) (fun(a,b,c,d) (e,f)=>.ret [ab e] [V4 a b c f])
def F133(t1:Token):Option Bool:=
 (Q0e (decide (t1.kind_=1)) (Q0m t1.quoted_ 49)).bind fun n3=>
 some (decide (t1.kind_=1)&&decide (n3<0))
def SQ8(n:FuncId)(F:Token→Option (Bool)):Spec:=mkS n F (fun a=>([.pv (PV.agg [.int .i64 a.kind_,.int .i64 a.at_,.str a.text_,.str a.quoted_])],[])) (fun a b=>.ret [ab b] [])
def S133:=SQ8 133 F133
def F134(s1:Str):Option Bool:=
 (Q0e (!decide (s1=[])) (Q0m s1 32)).bind fun n3=>
 (Q0e (!decide (s1=[])&&decide (n3<0)) (catO [32] s1)).bind fun s6=>
 (Q0e (!decide (s1=[])&&decide (n3<0)) (catO s6 [32])).bind fun s9=>
 (Q0e (!decide (s1=[])&&decide (n3<0)) (Q4m [32,105,102,32,110,111,116,32,119,104,105,108,101,32,102,111,114,32,105,110,32,115,119,105,116,99,104,32,99,97,115,101,32,102,110,32,126,32] s9)).bind fun ok12=>
 some ((!decide (s1=[])&&decide (n3<0))&&ok12)
def S134:=SQ3 134 F134
def F83(t1:Token):Option Str:=
 (F133 t1).bind fun r3=>
 (Q0e r3 (F134 t1.text_)).bind fun r6=>
 (bif (r3&&r6)then
  some t1.text_
 else
  some [])
def S83:Spec:=mkS 83 F83 (fun a=>([.pv (PV.agg [.int .i64 a.kind_,.int .i64 a.at_,.str a.text_,.str a.quoted_])],[])) (fun a b=>.ret [as_ b] [])
def F129(t1:Token):Option Bool:=
 (bif decide (t1.kind_=1)then
  some true
 else
  (F128 t1 [36]).bind fun r4=>
  (Q0e (!r4) (F128 t1 [36,35])).bind fun r7=>
  (Q0e (!(r4||r7)) (F128 t1 [40])).bind fun r10=>
  (Q0e (!((r4||r7)||r10)) (F128 t1 [96])).bind fun r13=>
  some (((r4||r7)||r10)||r13))
def S129:=SQ8 129 F129
def F130(t1:Token):Option Bool:=
 (Q0e (!(decide (t1.kind_=4))&&decide (t1.kind_=2)) (sidx t1.text_ 0)).bind fun c3=>
 some (decide (t1.kind_=4)||(decide (t1.kind_=2)&&(decide (c3=60)||decide (c3=62))))
def S130:=SQ8 130 F130
def F81(inCase1:Bool)(x2:Str)(x3:List Token)(x4:List Str)(x5:Int):Option Bool:=
 (F84 0 x2 x3 x4 x5).bind fun r7=>
 (Q0e inCase1 (F83 r7)).bind fun r11=>
 (bif (inCase1&&decide (r11=[99,97,115,101]))then
  (F84 1 x2 x3 x4 x5).bind fun r14=>
  (F128 r14 [61]).bind fun r18=>
  (bif !r18 then
   some false
  else
   (F129 r7).bind fun r22=>
   (Q0e (!r22) (F130 r7)).bind fun r25=>
   (Q0e (!(r22||r25)) (F128 r7 [33])).bind fun r28=>
   (Q0e (!((r22||r25)||r28)) (F128 r7 [64])).bind fun r31=>
   (Q0e (!(((r22||r25)||r28)||r31)) (F128 r7 [123])).bind fun r34=>
   some ((((r22||r25)||r28)||r31)||r34))
 else
  (F129 r7).bind fun r15=>
  (Q0e (!r15) (F130 r7)).bind fun r18=>
  (Q0e (!(r15||r18)) (F128 r7 [33])).bind fun r21=>
  (Q0e (!((r15||r18)||r21)) (F128 r7 [64])).bind fun r24=>
  (Q0e (!(((r15||r18)||r21)||r24)) (F128 r7 [123])).bind fun r27=>
  some ((((r15||r18)||r21)||r24)||r27))
def S81:Spec:=mkS 81 (un5 F81) (fun(a,b,c,d,e)=>([.ref 0 0,ab a],[V4 b c d e])) (fun(a,b,c,d,e) f=>.ret [ab f] [V4 b c d e])
def F132(symbol1 x2:Str)(x3:List Token)(x4:List Str)(x5:Int):Option (Bool×Int):=
 (F127 symbol1 x2 x3 x4 x5).bind fun r8=>
 some (r8,(bif r8 then IntKind.wrap .i64 (x5+1)else x5))
def S132:Spec:=mkS 132 (un5 F132) (fun(a,b,c,d,e)=>([.ref 0 0,as_ a],[V4 b c d e])) (fun(a,b,c,d,e) (f,g)=>.ret [ab f] [V4 b c d g])
def Q3t(x1:Str)(x2:List Token)(x3:List Str)(again7:Int→Option Int):Int→Option Int:=fun x6=>
 (F84 0 x1 x2 x3 x6).bind fun r10=>
 (bif decide (r10.kind_=3)then
  again7 (IntKind.wrap .i64 (x6+1))
 else
  some x6)
def F168(x1:Str)(x2:List Token)(x3:List Str)(x4:Int):Option Int:=
 iter (Q3t x1 x2 x3) BIG x4
def S168:Spec:=mkS 168 (un4 F168) (fun(a,b,c,d)=>([.ref 0 0],[V4 a b c d])) (fun(a,b,c,d) e=>.ret [] [V4 a b c e])
def Q9p(x2:Str)(x3:List Token)(x4:List Str)(w200:Y0)(inCase1:Bool)(again18:(Int×(List Cmd))→Option (Int ⊕ (Cmd×Int))):(Int×(List Cmd))→Option (Int ⊕ (Cmd×Int)):=fun(x16,l17)=>
 (F132 [124] x2 x3 x4 x16).bind fun(r21,x22)=>
 (bif r21 then
  (F168 x2 x3 x4 x22).bind fun x27=>
  Q0g (w200 inCase1 x2 x3 x4 x27) fun(r31,r32)=>
  (appO 104 l17 [r31]).bind fun out39=>
  again18 (r32,out39)
 else
  (bif decide ((l17.length:Int)=1)then
   (lidx l17 0).bind fun u43=>
   some (.inr (u43,x22))
  else
   (lidx l17 0).bind fun u46=>
   some (.inr (Cmd.mk 3 u46.at_ [] [] [] l17,x22))))
def F167(w200:Y0)(inCase1:Bool)(x2:Str)(x3:List Token)(x4:List Str)(x5:Int):Option (Int ⊕ (Cmd×Int)):=
 Q0g (w200 inCase1 x2 x3 x4 x5) fun(r8,r9)=>
 (F132 [124] x2 x3 x4 r9).bind fun(r50,x51)=>
 (bif r50 then
  (F168 x2 x3 x4 x51).bind fun x56=>
  Q0g (w200 inCase1 x2 x3 x4 x56) fun(r60,r61)=>
  (appO 104 [r8] [r60]).bind fun out68=>
  iter (Q9p x2 x3 x4 w200 inCase1) BIG (r61,out68)
 else
  (bif decide (([r8].length:Int)=1)then
   some (.inr (r8,x51))
  else
   some (.inr (Cmd.mk 3 r8.at_ [] [] [] [r8],x51))))
def SQ9(n:FuncId)(F:Bool→Str→(List Token)→(List Str)→Int→Option (Int ⊕ (Cmd×Int))):Spec:=mkS n (un5 F) (fun(a,b,c,d,e)=>([.ref 0 0,ab a],[V4 b c d e])) (fun(a,b,c,d,e) r=>match r with|.inl n=>.boom (syn n)|.inr (f,g)=>.ret [.pv (PV.agg [.int .i64 f.kind_,.int .i64 f.at_,.str f.name_,.slice (List.map Word.pv f.words_),.slice (List.map Redir.pv f.redirs_),.slice (List.map Cmd.pv f.kids_)])] [V4 b c d g])
def S167(w200:Y0):=SQ9 167 (F167 w200)
def Z1s(x2:Str)(x3:List Token)(x4:List Str)(w200:Y0)(inCase1:Bool)(again22:(Int×Int×Str×(List Word)×(List Redir)×(List Cmd))→Option (Int ⊕ (Cmd×Int)))(x17:Int)(r8:Cmd)(x18:Str)(x19:List Word)(x20:List Redir)(x21:List Cmd):(Int×Int)→Option (Int ⊕ (Cmd×Int)):=fun(kind25,x26)=>
 (F168 x2 x3 x4 x26).bind fun x27=>
 Q0g (F167 w200 inCase1 x2 x3 x4 x27) fun(r31,x32)=>
 again22 (x32,kind25,[],([]:List Word),([]:List Redir),[Cmd.mk x17 r8.at_ x18 x19 x20 x21,r31])
def Q8a(x2:Str)(x3:List Token)(x4:List Str)(w200:Y0)(inCase1:Bool)(r8:Cmd)(again22:(Int×Int×Str×(List Word)×(List Redir)×(List Cmd))→Option (Int ⊕ (Cmd×Int))):(Int×Int×Str×(List Word)×(List Redir)×(List Cmd))→Option (Int ⊕ (Cmd×Int)):=fun(x16,x17,x18,x19,x20,x21)=>
 (F132 [38,38] x2 x3 x4 x16).bind fun(r39,x40)=>
 (bif r39 then
  Z1s x2 x3 x4 w200 inCase1 again22 x17 r8 x18 x19 x20 x21 (5,x40)
 else
  (F132 [124,124] x2 x3 x4 x40).bind fun(r45,x46)=>
  (bif r45 then
   Z1s x2 x3 x4 w200 inCase1 again22 x17 r8 x18 x19 x20 x21 (6,x46)
  else
   some (.inr (Cmd.mk x17 r8.at_ x18 x19 x20 x21,x46))))
def F131(w200:Y0)(inCase1:Bool)(x2:Str)(x3:List Token)(x4:List Str)(x5:Int):Option (Int ⊕ (Cmd×Int)):=
 Q0g (F167 w200 inCase1 x2 x3 x4 x5) fun(r8,x9)=>
 iter (Q8a x2 x3 x4 w200 inCase1 r8) BIG (x9,r8.kind_,r8.name_,r8.words_,r8.redirs_,r8.kids_)
def S131(w200:Y0):=SQ9 131 (F131 w200)
def F82(w200:Y0)(inCase1:Bool)(x2:Str)(x3:List Token)(x4:List Str)(x5:Int):Option (Int ⊕ (Cmd×Int)):=
 Q0g (F131 w200 inCase1 x2 x3 x4 x5) fun(r8,x9)=>
 (F132 [38] x2 x3 x4 x9).bind fun(r16,x17)=>
 (bif r16 then
  some (.inr (Cmd.mk 14 r8.at_ [] [] [] [r8],x17))
 else
  some (.inr (r8,x17)))
def S82(w200:Y0):=SQ9 82 (F82 w200)
def F48(x1:Str)(x2:List Token)(x3:List Str)(x4:Int):Option (Int ⊕ Unit):=
 (bif decide (x4<(x2.length:Int))then
  (lidx x2 x4).bind fun u6=>
  some (.inl u6.at_)
 else
  some (.inl (x1.length:Int)))
def S48:Spec:=mkS 48 (un4 F48) (fun(a,b,c,d)=>([.ref 0 0],[V4 a b c d])) (fun(a,b,c,d) r=>match r with|.inl n=>.boom (syn n)|.inr (_:Unit)=>.ret [] [V4 a b c d])
def Z7a(inCase1:Bool)(x2:Str)(x3:List Token)(x4:List Str)(w200:Y0)(again15:(Int×(List Cmd))→Option (Int ⊕ ((List Cmd)×Int))):(Int×(List Cmd))→Option (Int ⊕ ((List Cmd)×Int)):=fun(x13,l14)=>
 (F81 inCase1 x2 x3 x4 x13).bind fun r18=>
 (bif r18 then
  Q0g (F82 w200 inCase1 x2 x3 x4 x13) fun(r23,x24)=>
  (appO 104 l14 [r23]).bind fun out31=>
  (F80 x2 x3 x4 x24).bind fun(r34,x35)=>
  (bif (r34||decide (r23.kind_=14))then
   again15 (x35,out31)
  else
   (bif inCase1 then
    (F84 0 x2 x3 x4 x35).bind fun r40=>
    (F83 r40).bind fun r44=>
    (bif decide (r44=[99,97,115,101])then
     Q0g (F48 x2 x3 x4 x35) fun _=>
     some (.inr (out31,x35))
    else
     some (.inr (out31,x35)))
   else
    some (.inr (out31,x35))))
 else
  some (.inr (l14,x13)))
def F47(w200:Y0)(inCase1:Bool)(x2:Str)(x3:List Token)(x4:List Str)(x5:Int):Option (Int ⊕ ((List Cmd)×Int)):=
 (F80 x2 x3 x4 x5).bind fun(r8,x9)=>
 iter (Z7a inCase1 x2 x3 x4 w200) BIG (x9,([]:List Cmd))
def S47(w200:Y0):Spec:=mkS 47 (un5 (F47 w200)) (fun(a,b,c,d,e)=>([.ref 0 0,ab a],[V4 b c d e])) (fun(a,b,c,d,e) r=>match r with|.inl n=>.boom (syn n)|.inr (f,g)=>.ret [.pv (.slice (List.map Cmd.pv f))] [V4 b c d g])
def Z9c(s1:Str)(again4:Int→Option Bool):Int→Option Bool:=fun i3=>
 (bif decide (i3<(s1.length:Int))then
  (sidx s1 i3).bind fun c8=>
  (bif (((((decide (c8<97)||decide (122<c8))&&(decide (c8<65)||decide (90<c8)))&&(decide (c8<48)||decide (57<c8)))&&!decide (c8=95))&&!decide (c8=42))then
   some false
  else
   again4 (IntKind.wrap .i64 (i3+1)))
 else
  some (!decide (s1=[])))
def F144(s1:Str):Option Bool:=
 iter (Z9c s1) BIG 0
def S144:=SQ3 144 F144
def F223(w200:Y0)(w252:Y1)(inCase1:Bool)(x2:Str)(x3:List Token)(x4:List Str)(x5:Int):Option (Int ⊕ (Cmd×Int)):=
 (F84 0 x2 x3 x4 x5).bind fun r8=>
 Q0g (w252 x2 x3 x4 (IntKind.wrap .i64 (x5+2))) fun(r13,r14)=>
 (F81 false x2 x3 x4 r14).bind fun r21=>
 (bif r21 then
  Q0g (w200 inCase1 x2 x3 x4 r14) fun(r26,r27)=>
  some (.inr (Cmd.mk 2 r8.at_ r8.text_ [r13] [] [r26],r27))
 else
  some (.inr (Cmd.mk 2 r8.at_ r8.text_ [r13] [] [],r14)))
def S223(w200:Y0)(w252:Y1):=SQ9 223 (F223 w200 w252)
def Z5h(w200:Y0)(inCase3:Bool)(x4:Str)(x5:List Token)(x6:List Str)(Q7j:Int)(r10:Token):Int→Option (Int ⊕ (Cmd×Int)):=fun x14=>
 Q0g (w200 inCase3 x4 x5 x6 x14) fun(r15,r16)=>
 some (.inr (Cmd.mk Q7j r10.at_ [] [] [] [r15],r16))
def F224(w200:Y0)(Q7j tokens2:Int)(inCase3:Bool)(x4:Str)(x5:List Token)(x6:List Str)(x7:Int):Option (Int ⊕ (Cmd×Int)):=
 (F84 0 x4 x5 x6 x7).bind fun r10=>
 (bif decide (Q7j=9)then
  (F168 x4 x5 x6 (IntKind.wrap .i64 (x7+tokens2))).bind fun x24=>
  Z5h w200 inCase3 x4 x5 x6 Q7j r10 x24
 else
  Z5h w200 inCase3 x4 x5 x6 Q7j r10 (IntKind.wrap .i64 (x7+tokens2)))
def S224(w200:Y0):Spec:=mkS 224 (un7 (F224 w200)) (fun(a,b,c,d,e,f,g)=>([.ref 0 0,ai a,ai b,ab c],[V4 d e f g])) (fun(a,b,c,d,e,f,g) r=>match r with|.inl n=>.boom (syn n)|.inr (h,i)=>.ret [.pv (PV.agg [.int .i64 h.kind_,.int .i64 h.at_,.str h.name_,.slice (List.map Word.pv h.words_),.slice (List.map Redir.pv h.redirs_),.slice (List.map Cmd.pv h.kids_)])] [V4 d e f i])
def F255(symbol1 x2:Str)(x3:List Token)(x4:List Str)(x5:Int):Option (Int ⊕ (Int×Int)):=
 (F84 0 x2 x3 x4 x5).bind fun r8=>
 (F132 symbol1 x2 x3 x4 x5).bind fun(r12,x13)=>
 (bif !r12 then
  Q0g (F48 x2 x3 x4 x13) fun _=>
  some (.inr (r8.at_,x13))
 else
  some (.inr (r8.at_,x13)))
def S255:Spec:=mkS 255 (un5 F255) (fun(a,b,c,d,e)=>([.ref 0 0,as_ a],[V4 b c d e])) (fun(a,b,c,d,e) r=>match r with|.inl n=>.boom (syn n)|.inr (f,g)=>.ret [ai f] [V4 b c d g])
def F253(w200:Y0)(x1:Str)(x2:List Token)(x3:List Str)(x4:Int):Option (Int ⊕ ((List Cmd)×Int)):=
 Q0g (F255 [123] x1 x2 x3 x4) fun(r7,x8)=>
 Q0g (F47 w200 false x1 x2 x3 x8) fun(r15,x16)=>
 Q0g (F255 [125] x1 x2 x3 x16) fun(r23,x24)=>
 some (.inr (r15,x24))
def S253(w200:Y0):Spec:=mkS 253 (un4 (F253 w200)) (fun(a,b,c,d)=>([.ref 0 0],[V4 a b c d])) (fun(a,b,c,d) r=>match r with|.inl n=>.boom (syn n)|.inr (e,f)=>.ret [.pv (.slice (List.map Cmd.pv e))] [V4 a b c f])
def F288(s1 prefix2:Str):Option Str:=
 (F74 s1 prefix2).bind fun r4=>
 (bif r4 then
  (Q0t s1 (prefix2.length:Int) (s1.length:Int)).bind fun t8=>
  some t8
 else
  some s1)
def SQ10(n:FuncId)(F:Str→Str→Option (Str)):Spec:=mkS n (un2 F) (fun(a,b)=>([as_ a,as_ b],[])) (fun(a,b) c=>.ret [as_ c] [])
def S288:=SQ10 288 F288
def F276(s1 prefix2:Str):Option Str:=
 (F288 s1 prefix2).bind fun r4=>
 some r4
def S276:=SQ10 276 F276
def F155(s1 suffix2:Str):Option Bool:=
 (Q0e (decide ((suffix2.length:Int)≤(s1.length:Int))) (Q0t s1 (IntKind.wrap .i64 ((s1.length:Int)-(suffix2.length:Int))) (s1.length:Int))).bind fun t4=>
 some (decide ((suffix2.length:Int)≤(s1.length:Int))&&decide (t4=suffix2))
def S155:=SQ0 155 F155
def F287(s1 suffix2:Str):Option Str:=
 (F155 s1 suffix2).bind fun r4=>
 (bif r4 then
  (Q0t s1 0 (IntKind.wrap .i64 ((s1.length:Int)-(suffix2.length:Int)))).bind fun t8=>
  some t8
 else
  some s1)
def S287:=SQ10 287 F287
def F275(s1 suffix2:Str):Option Str:=
 (F287 s1 suffix2).bind fun r4=>
 some r4
def S275:=SQ10 275 F275
def F277(s1:Str):Option Int:=
 (J1c s1).bind fun(n3,bad4)=>
 some n3
def S277:Spec:=mkS 277 F277 (fun a=>([as_ a],[])) (fun a b=>.ret [ai b] [])
def Q9k(w252:Y1)(x1:Str)(x2:List Token)(x3:List Str)(x4 x25:Int):Int→Option (Int ⊕ (Redir×Int)):=fun x27=>
 Q0g (w252 x1 x2 x3 (IntKind.wrap .i64 (x4+1))) fun(r28,r29)=>
 some (.inr (Redir.mk x25 x27 0 r28 false,r29))
def Q6t(x4:Int)(w252:Y1)(x1:Str)(x2:List Token)(x3:List Str):(Str×Int×Int)→Option (Int ⊕ (Redir×Int)):=fun(rest24,x25,x26)=>
 (bif !decide (rest24=[])then
  (F276 rest24 [91]).bind fun r37=>
  (F275 r37 [93]).bind fun r40=>
  (Z5y r40 [61]).bind fun(a43,b44,ok45)=>
  (F277 a43).bind fun r48=>
  (bif (ok45&&decide (b44=[]))then
   some (.inr (Redir.mk 6 r48 0 (Word.mk 0 [] [] [] []) false,IntKind.wrap .i64 (x4+1)))
  else
   (bif ok45 then
    (F277 b44).bind fun r53=>
    some (.inr (Redir.mk 5 r48 r53 (Word.mk 0 [] [] [] []) false,IntKind.wrap .i64 (x4+1)))
   else
    Q9k w252 x1 x2 x3 x4 x25 r48))
 else
  Q9k w252 x1 x2 x3 x4 x25 x26)
def F254(w252:Y1)(x1:Str)(x2:List Token)(x3:List Str)(x4:Int):Option (Int ⊕ (Redir×Int)):=
 (F84 0 x1 x2 x3 x4).bind fun r7=>
 (bif decide (r7.kind_=4)then
  (lidx x3 x4).bind fun w12=>
  (Q5j [48] (w12.length:Int)).bind fun t15=>
  (Q0m r7.quoted_ 49).bind fun n18=>
  some (.inr (Redir.mk 4 0 0 (Word.mk 1 w12 t15 [] []) (decide (0≤n18)),IntKind.wrap .i64 (x4+1)))
 else
  (Q0t r7.text_ 1 (r7.text_.length:Int)).bind fun t21=>
  (sidx r7.text_ 0).bind fun c56=>
  (bif decide (c56=60)then
   Q6t x4 w252 x1 x2 x3 (t21,1,0)
  else
   (F42 t21 [62]).bind fun r60=>
   (bif r60 then
    (Q0t t21 1 (t21.length:Int)).bind fun t64=>
    Q6t x4 w252 x1 x2 x3 (t64,3,1)
   else
    Q6t x4 w252 x1 x2 x3 (t21,2,1))))
def S254(w252:Y1):Spec:=mkS 254 (un4 (F254 w252)) (fun(a,b,c,d)=>([.ref 0 0],[V4 a b c d])) (fun(a,b,c,d) r=>match r with|.inl n=>.boom (syn n)|.inr (e,f)=>.ret [.pv (PV.agg [.int .i64 e.kind_,.int .i64 e.fd_,.int .i64 e.from_,.int .i64 e.word_.kind_,.str e.word_.text_,.str e.word_.quoted_,.slice (List.map Word.pv e.word_.words_),.slice (List.map Cmd.pv e.word_.cmd_),.bool e.raw_])] [V4 a b c f])
def Z1n(x1:Str)(x2:List Token)(x3:List Str)(w252:Y1)(r7:Token)(r11:List Cmd)(again21:(Int×(List Redir))→Option (Int ⊕ (Cmd×Int))):(Int×(List Redir))→Option (Int ⊕ (Cmd×Int)):=fun(x19,l20)=>
 (F84 0 x1 x2 x3 x19).bind fun r24=>
 (F130 r24).bind fun r28=>
 (bif r28 then
  Q0g (F254 w252 x1 x2 x3 x19) fun(r32,x33)=>
  (appO 120 l20 [r32]).bind fun out40=>
  again21 (x33,out40)
 else
  some (.inr (Cmd.mk 12 r7.at_ [] [] l20 r11,x19)))
def F225(w200:Y0)(w252:Y1)(x1:Str)(x2:List Token)(x3:List Str)(x4:Int):Option (Int ⊕ (Cmd×Int)):=
 (F84 0 x1 x2 x3 x4).bind fun r7=>
 Q0g (F253 w200 x1 x2 x3 x4) fun(r11,x12)=>
 iter (Z1n x1 x2 x3 w252 r7 r11) BIG (x12,([]:List Redir))
def SQ11(n:FuncId)(F:Str→(List Token)→(List Str)→Int→Option (Int ⊕ (Cmd×Int))):Spec:=mkS n (un4 F) (fun(a,b,c,d)=>([.ref 0 0],[V4 a b c d])) (fun(a,b,c,d) r=>match r with|.inl n=>.boom (syn n)|.inr (e,f)=>.ret [.pv (PV.agg [.int .i64 e.kind_,.int .i64 e.at_,.str e.name_,.slice (List.map Word.pv e.words_),.slice (List.map Redir.pv e.redirs_),.slice (List.map Cmd.pv e.kids_)])] [V4 a b c f])
def S225(w200:Y0)(w252:Y1):=SQ11 225 (F225 w200 w252)
def F226(w200:Y0)(Q7j:Int)(inCase2:Bool)(x3:Str)(x4:List Token)(x5:List Str)(x6:Int):Option (Int ⊕ (Cmd×Int)):=
 (F84 0 x3 x4 x5 x6).bind fun r9=>
 Q0g (F255 [40] x3 x4 x5 (IntKind.wrap .i64 (x6+1))) fun(r13,x14)=>
 Q0g (F47 w200 false x3 x4 x5 x14) fun(r21,x22)=>
 Q0g (F255 [41] x3 x4 x5 x22) fun(r29,x30)=>
 (F168 x3 x4 x5 x30).bind fun x37=>
 Q0g (w200 inCase2 x3 x4 x5 x37) fun(r41,r42)=>
 some (.inr (Cmd.mk Q7j r9.at_ [] [] [] [Cmd.mk 12 r13 [] [] [] r21,r41],r42))
def S226(w200:Y0):Spec:=mkS 226 (un6 (F226 w200)) (fun(a,b,c,d,e,f)=>([.ref 0 0,ai a,ab b],[V4 c d e f])) (fun(a,b,c,d,e,f) r=>match r with|.inl n=>.boom (syn n)|.inr (g,h)=>.ret [.pv (PV.agg [.int .i64 g.kind_,.int .i64 g.at_,.str g.name_,.slice (List.map Word.pv g.words_),.slice (List.map Redir.pv g.redirs_),.slice (List.map Cmd.pv g.kids_)])] [V4 c d e h])
def F256(x1:Str)(x2:List Token)(x3:List Str)(x4:Int):Option (Int ⊕ (Str×Int)):=
 (F84 0 x1 x2 x3 x4).bind fun r7=>
 (F133 r7).bind fun r11=>
 (Q0e r11 (F144 r7.text_)).bind fun r14=>
 (bif (!r11||!r14)then
  Q0g (F48 x1 x2 x3 x4) fun _=>
  some (.inr (r7.text_,IntKind.wrap .i64 (x4+1)))
 else
  some (.inr (r7.text_,IntKind.wrap .i64 (x4+1))))
def S256:Spec:=mkS 256 (un4 F256) (fun(a,b,c,d)=>([.ref 0 0],[V4 a b c d])) (fun(a,b,c,d) r=>match r with|.inl n=>.boom (syn n)|.inr (e,f)=>.ret [as_ e] [V4 a b c f])
def Q3b(x1:Str)(x2:List Token)(x3:List Str)(w252:Y1)(again9:(Int×(List Word))→Option (Int ⊕ ((List Word)×Int))):(Int×(List Word))→Option (Int ⊕ ((List Word)×Int)):=fun(x7,l8)=>
 (F168 x1 x2 x3 x7).bind fun x12=>
 (F84 0 x1 x2 x3 x12).bind fun r16=>
 (F129 r16).bind fun r20=>
 (bif !r20 then
  some (.inr (l8,x12))
 else
  Q0g (w252 x1 x2 x3 x12) fun(r24,r25)=>
  (appO 88 l8 [r24]).bind fun out32=>
  again9 (r25,out32))
def F257(w252:Y1)(x1:Str)(x2:List Token)(x3:List Str)(x4:Int):Option (Int ⊕ ((List Word)×Int)):=
 iter (Q3b x1 x2 x3 w252) BIG (x4,([]:List Word))
def S257(w252:Y1):Spec:=mkS 257 (un4 (F257 w252)) (fun(a,b,c,d)=>([.ref 0 0],[V4 a b c d])) (fun(a,b,c,d) r=>match r with|.inl n=>.boom (syn n)|.inr (e,f)=>.ret [.pv (.slice (List.map Word.pv e))] [V4 a b c f])
def F227(w200:Y0)(w252:Y1)(inCase1:Bool)(x2:Str)(x3:List Token)(x4:List Str)(x5:Int):Option (Int ⊕ (Cmd×Int)):=
 (F84 0 x2 x3 x4 x5).bind fun r8=>
 Q0g (F255 [40] x2 x3 x4 (IntKind.wrap .i64 (x5+1))) fun(r12,x13)=>
 Q0g (F256 x2 x3 x4 x13) fun(r20,x21)=>
 (F84 0 x2 x3 x4 x21).bind fun r28=>
 (F83 r28).bind fun r32=>
 (bif decide (r32=[105,110])then
  Q0g (F257 w252 x2 x3 x4 (IntKind.wrap .i64 (x21+1))) fun(r36,x37)=>
  Q0g (F255 [41] x2 x3 x4 x37) fun(r44,x45)=>
  (F168 x2 x3 x4 x45).bind fun x52=>
  Q0g (w200 inCase1 x2 x3 x4 x52) fun(r56,r57)=>
  some (.inr (Cmd.mk 10 r8.at_ r20 r36 [] [r56],r57))
 else
  Q0g (F255 [41] x2 x3 x4 x21) fun(r64,x65)=>
  (F168 x2 x3 x4 x65).bind fun x72=>
  Q0g (w200 inCase1 x2 x3 x4 x72) fun(r76,r77)=>
  some (.inr (Cmd.mk 10 r8.at_ r20 [Word.mk 2 [42] [] [] []] [] [r76],r77)))
def S227(w200:Y0)(w252:Y1):=SQ9 227 (F227 w200 w252)
def Q3f(x1:Str)(x2:List Token)(x3:List Str)(w252:Y1)(w200:Y0)(r7:Token)(again21:(Int×(List Word))→Option (Int ⊕ (Cmd×Int))):(Int×(List Word))→Option (Int ⊕ (Cmd×Int)):=fun(x19,l20)=>
 (F84 0 x1 x2 x3 x19).bind fun r24=>
 (F129 r24).bind fun r28=>
 (bif r28 then
  Q0g (w252 x1 x2 x3 x19) fun(r32,r33)=>
  (appO 88 l20 [r32]).bind fun out40=>
  again21 (r33,out40)
 else
  (F80 x1 x2 x3 x19).bind fun(r43,x44)=>
  (bif r43 then
   Q0g (F47 w200 true x1 x2 x3 x44) fun(r49,x50)=>
   some (.inr (Cmd.mk 18 r7.at_ [] l20 [] r49,x50))
  else
   some (.inr (Cmd.mk 18 r7.at_ [] l20 [] [],x44))))
def F258(w200:Y0)(w252:Y1)(x1:Str)(x2:List Token)(x3:List Str)(x4:Int):Option (Int ⊕ (Cmd×Int)):=
 (F84 0 x1 x2 x3 x4).bind fun r7=>
 Q0g (w252 x1 x2 x3 (IntKind.wrap .i64 (x4+1))) fun(r11,r12)=>
 (F84 0 x1 x2 x3 r12).bind fun r58=>
 (F129 r58).bind fun r62=>
 (bif r62 then
  Q0g (w252 x1 x2 x3 r12) fun(r66,r67)=>
  (appO 88 [r11] [r66]).bind fun out74=>
  iter (Q3f x1 x2 x3 w252 w200 r7) BIG (r67,out74)
 else
  (F80 x1 x2 x3 r12).bind fun(r77,x78)=>
  (bif r77 then
   Q0g (F47 w200 true x1 x2 x3 x78) fun(r83,x84)=>
   some (.inr (Cmd.mk 18 r7.at_ [] [r11] [] r83,x84))
  else
   some (.inr (Cmd.mk 18 r7.at_ [] [r11] [] [],x78))))
def S258(w200:Y0)(w252:Y1):=SQ11 258 (F258 w200 w252)
def Q6u(x1:Str)(x2:List Token)(x3:List Str)(w200:Y0)(w252:Y1)(r7:Token)(r11:Word)(again34:(Int×(List Cmd))→Option (Int ⊕ (Cmd×Int))):(Int×(List Cmd))→Option (Int ⊕ (Cmd×Int)):=fun(x32,l33)=>
 (F84 0 x1 x2 x3 x32).bind fun r37=>
 (F83 r37).bind fun r41=>
 (bif decide (r41=[99,97,115,101])then
  Q0g (F258 w200 w252 x1 x2 x3 x32) fun(r45,x46)=>
  (appO 104 l33 [r45]).bind fun out53=>
  again34 (x46,out53)
 else
  Q0g (F255 [125] x1 x2 x3 x32) fun(r56,x57)=>
  some (.inr (Cmd.mk 17 r7.at_ [] [r11] [] l33,x57)))
def F228(w200:Y0)(w252:Y1)(x1:Str)(x2:List Token)(x3:List Str)(x4:Int):Option (Int ⊕ (Cmd×Int)):=
 (F84 0 x1 x2 x3 x4).bind fun r7=>
 Q0g (w252 x1 x2 x3 (IntKind.wrap .i64 (x4+1))) fun(r11,r12)=>
 Q0g (F255 [123] x1 x2 x3 r12) fun(r19,x20)=>
 (F80 x1 x2 x3 x20).bind fun(r27,x28)=>
 iter (Q6u x1 x2 x3 w200 w252 r7 r11) BIG (x28,([]:List Cmd))
def S228(w200:Y0)(w252:Y1):=SQ11 228 (F228 w200 w252)
def F229(w200:Y0)(x1:Str)(x2:List Token)(x3:List Str)(x4:Int):Option (Int ⊕ (Cmd×Int)):=
 (F84 0 x1 x2 x3 x4).bind fun r7=>
 Q0g (F256 x1 x2 x3 (IntKind.wrap .i64 (x4+1))) fun(r11,x12)=>
 (F127 [123] x1 x2 x3 x12).bind fun r19=>
 (bif !r19 then
  some (.inr (Cmd.mk 15 r7.at_ r11 [] [] [],x12))
 else
  Q0g (F253 w200 x1 x2 x3 x12) fun(r24,x25)=>
  (bif decide ((r24.length:Int)=0)then
   some (.inr (Cmd.mk 15 r7.at_ r11 [] [] [Cmd.mk 12 0 [] [] [] []],x25))
  else
   some (.inr (Cmd.mk 15 r7.at_ r11 [] [] r24,x25))))
def S229(w200:Y0):=SQ11 229 (F229 w200)
def Q5q(x1:Str)(x2:List Token)(x3:List Str)(w252:Y1)(r7:Token)(again21:(Int×(List Word))→Option (Int ⊕ (Cmd×Int))):(Int×(List Word))→Option (Int ⊕ (Cmd×Int)):=fun(x19,l20)=>
 (F84 0 x1 x2 x3 x19).bind fun r24=>
 (F129 r24).bind fun r28=>
 (bif r28 then
  Q0g (w252 x1 x2 x3 x19) fun(r32,r33)=>
  (appO 88 l20 [r32]).bind fun out40=>
  again21 (r33,out40)
 else
  some (.inr (Cmd.mk 16 r7.at_ [] l20 [] [],x19)))
def F230(w252:Y1)(x1:Str)(x2:List Token)(x3:List Str)(x4:Int):Option (Int ⊕ (Cmd×Int)):=
 (F84 0 x1 x2 x3 x4).bind fun r7=>
 Q0g (w252 x1 x2 x3 (IntKind.wrap .i64 (x4+1))) fun(r11,r12)=>
 (F84 0 x1 x2 x3 r12).bind fun r44=>
 (F129 r44).bind fun r48=>
 (bif r48 then
  Q0g (w252 x1 x2 x3 r12) fun(r52,r53)=>
  (appO 88 [r11] [r52]).bind fun out60=>
  iter (Q5q x1 x2 x3 w252 r7) BIG (r53,out60)
 else
  some (.inr (Cmd.mk 16 r7.at_ [] [r11] [] [],r12)))
def S230(w252:Y1):=SQ11 230 (F230 w252)
def Q4p(x1:Str)(x2:List Token)(x3:List Str)(w252:Y1)(r7:Token)(again14:(Int×(List Word)×(List Redir))→Option (Int ⊕ (Cmd×Int))):(Int×(List Word)×(List Redir))→Option (Int ⊕ (Cmd×Int)):=fun(x11,l12,l13)=>
 (F84 0 x1 x2 x3 x11).bind fun r17=>
 (Q0e (decide ((l12.length:Int)=0)&&decide (0<(l13.length:Int))) (F83 r17)).bind fun r21=>
 (bif ((((decide ((l12.length:Int)=0)&&decide (0<(l13.length:Int)))&&!decide (r21=[]))&&!decide (r21=[110,111,116]))&&!decide (r21=[105,110]))then
  Q0g (F48 x1 x2 x3 x11) fun _=>
  again14 (x11,l12,l13)
 else
  (F129 r17).bind fun r31=>
  (bif r31 then
   Q0g (w252 x1 x2 x3 x11) fun(r35,r36)=>
   (appO 88 l12 [r35]).bind fun out43=>
   again14 (r36,out43,l13)
  else
   (F130 r17).bind fun r46=>
   (bif r46 then
    Q0g (F254 w252 x1 x2 x3 x11) fun(r50,x51)=>
    (appO 120 l13 [r50]).bind fun out58=>
    again14 (x51,l12,out58)
   else
    some (.inr (Cmd.mk 1 r7.at_ [] l12 l13 [],x11)))))
def F231(w252:Y1)(x1:Str)(x2:List Token)(x3:List Str)(x4:Int):Option (Int ⊕ (Cmd×Int)):=
 (F84 0 x1 x2 x3 x4).bind fun r7=>
 iter (Q4p x1 x2 x3 w252 r7) BIG (x4,([]:List Word),([]:List Redir))
def S231(w252:Y1):=SQ11 231 (F231 w252)
def Q9m(inCase1:Bool)(x2:Str)(x3:List Token)(x4:List Str)(w252:Y1):Int→Option (Int ⊕ (Cmd×Int)):=fun x70=>
 (F81 inCase1 x2 x3 x4 x70).bind fun r71=>
 (bif !r71 then
  Q0g (F48 x2 x3 x4 x70) fun _=>
  Q0g (F231 w252 x2 x3 x4 x70) fun(r82,x83)=>
  some (.inr (r82,x83))
 else
  Q0g (F231 w252 x2 x3 x4 x70) fun(r90,x91)=>
  some (.inr (r90,x91)))
def F200(w200:Y0)(w252:Y1)(inCase1:Bool)(x2:Str)(x3:List Token)(x4:List Str)(x5:Int):Option (Int ⊕ (Cmd×Int)):=
 (F84 0 x2 x3 x4 x5).bind fun r8=>
 (F84 1 x2 x3 x4 x5).bind fun r12=>
 (F133 r8).bind fun r16=>
 (Q0e r16 (F144 r8.text_)).bind fun r19=>
 (Q0e (r16&&r19) (F128 r12 [61])).bind fun r22=>
 (bif ((r16&&r19)&&r22)then
  Q0g (F223 w200 w252 inCase1 x2 x3 x4 x5) fun(r26,x27)=>
  some (.inr (r26,x27))
 else
  (F128 r8 [33]).bind fun r34=>
  (bif r34 then
   Q0g (F224 w200 7 1 inCase1 x2 x3 x4 x5) fun(r38,x39)=>
   some (.inr (r38,x39))
  else
   (F128 r8 [64]).bind fun r46=>
   (bif r46 then
    Q0g (F224 w200 13 1 inCase1 x2 x3 x4 x5) fun(r50,x51)=>
    some (.inr (r50,x51))
   else
    (F128 r8 [123]).bind fun r58=>
    (bif r58 then
     Q0g (F225 w200 w252 x2 x3 x4 x5) fun(r62,x63)=>
     some (.inr (r62,x63))
    else
     (F83 r8).bind fun r98=>
     (bif decide (r98=[105,102])then
      (F83 r12).bind fun r102=>
      (bif decide (r102=[110,111,116])then
       Q0g (F224 w200 9 2 inCase1 x2 x3 x4 x5) fun(r106,x107)=>
       some (.inr (r106,x107))
      else
       Q0g (F226 w200 8 inCase1 x2 x3 x4 x5) fun(r114,x115)=>
       some (.inr (r114,x115)))
     else
      (bif decide (r98=[119,104,105,108,101])then
       Q0g (F226 w200 11 inCase1 x2 x3 x4 x5) fun(r123,x124)=>
       some (.inr (r123,x124))
      else
       (bif decide (r98=[102,111,114])then
        Q0g (F227 w200 w252 inCase1 x2 x3 x4 x5) fun(r132,x133)=>
        some (.inr (r132,x133))
       else
        (bif decide (r98=[115,119,105,116,99,104])then
         Q0g (F228 w200 w252 x2 x3 x4 x5) fun(r141,x142)=>
         some (.inr (r141,x142))
        else
         (bif decide (r98=[102,110])then
          Q0g (F229 w200 x2 x3 x4 x5) fun(r150,x151)=>
          some (.inr (r150,x151))
         else
          (bif decide (r98=[126])then
           Q0g (F230 w252 x2 x3 x4 x5) fun(r159,x160)=>
           some (.inr (r159,x160))
          else
           (bif decide (r98=[99,97,115,101])then
            Q0g (F48 x2 x3 x4 (IntKind.wrap .i64 (x5+1))) fun _=>
            Q9m inCase1 x2 x3 x4 w252 (IntKind.wrap .i64 (x5+1))
           else
            Q9m inCase1 x2 x3 x4 w252 x5)))))))))))
def S200:=SQ9 200
def Z5e(x1:Str)(x2:List Token)(x3:List Str)(x29:Int)(r11:Str)(r28:List Word):Unit→Option (Int ⊕ (Word×Int)):=fun _=>
 Q0g (F255 [41] x1 x2 x3 x29) fun(r36,x37)=>
 some (.inr (Word.mk 7 r11 [] r28 [],x37))
def F286(w252:Y1)(x1:Str)(x2:List Token)(x3:List Str)(x4:Int):Option (Int ⊕ (Word×Int)):=
 (F84 0 x1 x2 x3 x4).bind fun r7=>
 Q0g (F256 x1 x2 x3 x4) fun(r11,x12)=>
 (F127 [40] x1 x2 x3 x12).bind fun r19=>
 (bif !r19 then
  some (.inr (Word.mk 2 r11 [] [] [],x12))
 else
  (F84 0 x1 x2 x3 x12).bind fun r23=>
  (bif !decide (r23.at_=IntKind.wrap .i64 (r7.at_+(r7.text_.length:Int)))then
   some (.inr (Word.mk 2 r11 [] [] [],x12))
  else
   Q0g (F257 w252 x1 x2 x3 (IntKind.wrap .i64 (x12+1))) fun(r28,x29)=>
   (bif decide ((r28.length:Int)=0)then
    Q0g (F48 x1 x2 x3 x29) fun _=>
    Z5e x1 x2 x3 x29 r11 r28 ()
   else
    Z5e x1 x2 x3 x29 r11 r28 ())))
def SQ12(n:FuncId)(F:Str→(List Token)→(List Str)→Int→Option (Int ⊕ (Word×Int))):Spec:=mkS n (un4 F) (fun(a,b,c,d)=>([.ref 0 0],[V4 a b c d])) (fun(a,b,c,d) r=>match r with|.inl n=>.boom (syn n)|.inr (e,f)=>.ret [.pv (PV.agg [.int .i64 e.kind_,.str e.text_,.str e.quoted_,.slice (List.map Word.pv e.words_),.slice (List.map Cmd.pv e.cmd_)])] [V4 a b c f])
def S286(w252:Y1):=SQ12 286 (F286 w252)
def Z5f(r7:Token)(x4:Int)(w252:Y1)(x1:Str)(x2:List Token)(x3:List Str)(w200:Y0):Unit→Option (Int ⊕ (Word×Int)):=fun _=>
 (bif decide (r7.kind_=1)then
  some (.inr (Word.mk 1 r7.text_ r7.quoted_ [] [],IntKind.wrap .i64 (x4+1)))
 else
  (bif decide (r7.text_=[36])then
   Q0g (F286 w252 x1 x2 x3 (IntKind.wrap .i64 (x4+1))) fun(r13,x14)=>
   some (.inr (r13,x14))
  else
   (bif decide (r7.text_=[36,35])then
    Q0g (F256 x1 x2 x3 (IntKind.wrap .i64 (x4+1))) fun(r22,x23)=>
    some (.inr (Word.mk 3 r22 [] [] [],x23))
   else
    (bif decide (r7.text_=[40])then
     Q0g (F257 w252 x1 x2 x3 (IntKind.wrap .i64 (x4+1))) fun(r31,x32)=>
     Q0g (F255 [41] x1 x2 x3 x32) fun(r39,x40)=>
     some (.inr (Word.mk 5 [] [] r31 [],x40))
    else
     Q0g (F253 w200 x1 x2 x3 (IntKind.wrap .i64 (x4+1))) fun(r47,x48)=>
     some (.inr (Word.mk 6 [] [] [] r47,x48))))))
def F274(w200:Y0)(w252:Y1)(x1:Str)(x2:List Token)(x3:List Str)(x4:Int):Option (Int ⊕ (Word×Int)):=
 (F84 0 x1 x2 x3 x4).bind fun r7=>
 (F129 r7).bind fun r55=>
 (bif !r55 then
  Q0g (F48 x1 x2 x3 x4) fun _=>
  Z5f r7 x4 w252 x1 x2 x3 w200 ()
 else
  Z5f r7 x4 w252 x1 x2 x3 w200 ())
def S274(w200:Y0)(w252:Y1):=SQ12 274 (F274 w200 w252)
def Q9l(x1:Str)(x2:List Token)(x3:List Str)(w200:Y0)(w252:Y1)(again17:(Int×(List Word))→Option (Int ⊕ (Word×Int))):(Int×(List Word))→Option (Int ⊕ (Word×Int)):=fun(x15,l16)=>
 (F132 [94] x1 x2 x3 x15).bind fun(r20,x21)=>
 (bif r20 then
  Q0g (F274 w200 w252 x1 x2 x3 x21) fun(r26,x27)=>
  (appO 88 l16 [r26]).bind fun out34=>
  again17 (x27,out34)
 else
  (bif decide ((l16.length:Int)=1)then
   (lidx l16 0).bind fun u38=>
   some (.inr (u38,x21))
  else
   some (.inr (Word.mk 4 [] [] l16 [],x21))))
def F252(w200:Y0)(w252:Y1)(x1:Str)(x2:List Token)(x3:List Str)(x4:Int):Option (Int ⊕ (Word×Int)):=
 Q0g (F274 w200 w252 x1 x2 x3 x4) fun(r7,x8)=>
 (F132 [94] x1 x2 x3 x8).bind fun(r42,x43)=>
 (bif r42 then
  Q0g (F274 w200 w252 x1 x2 x3 x43) fun(r48,x49)=>
  (appO 88 [r7] [r48]).bind fun out56=>
  iter (Q9l x1 x2 x3 w200 w252) BIG (x49,out56)
 else
  (bif decide (([r7].length:Int)=1)then
   some (.inr (r7,x43))
  else
   some (.inr (Word.mk 4 [] [] [r7] [],x43))))
def S252:=SQ12 252
mutual
def K200:Nat→Bool→Str→(List Token)→(List Str)→Int→Option (Int ⊕ (Cmd×Int))
 | 0=>fun _ _ _ _ _=>none
 | n+1=>F200 (K200 n) (K252 n)
def K252:Nat→Str→(List Token)→(List Str)→Int→Option (Int ⊕ (Word×Int))
 | 0=>fun _ _ _ _=>none
 | n+1=>F252 (K200 n) (K252 n)
end
def F20(s1:Str)(tokens2:List Token):Option ((List Cmd)×Int×Int):=
 (F46 s1 tokens2).bind fun docs3=>
 match F47 (K200 BIG) false s1 tokens2 docs3 0 with
 | none=>none
 | some (.inl n)=>some ([],n,47)
 | some (.inr (out4,next5))=>
  (bif decide (next5<(tokens2.length:Int))then
   match F48 s1 tokens2 docs3 next5 with
   | some (.inl n)=>some ([],n,47)
   | _=>none
  else
   some (out4,0,0))
def S20:Spec:=mkS 20 (un2 F20) (fun(a,b)=>([as_ a,.pv (.slice (List.map Token.pv b))],[])) (fun(a,b) (c,d,e)=>.ret [.pv (.slice (List.map Cmd.pv c)),ai d,ai e] [])
def F32(r1:Redir):Option Bool:=
 some (!decide (r1.kind_=5)&&!decide (r1.kind_=6))
def S32:Spec:=mkS 32 F32 (fun a=>([.pv (PV.agg [.int .i64 a.kind_,.int .i64 a.fd_,.int .i64 a.from_,.int .i64 a.word_.kind_,.str a.word_.text_,.str a.word_.quoted_,.slice (List.map Word.pv a.word_.words_),.slice (List.map Cmd.pv a.word_.cmd_),.bool a.raw_])],[])) (fun a b=>.ret [ab b] [])
def J1j(u9:Cmd)(w31:Y10)(again5:(Int×Int)→Option Int)(i4:Int)(again29:(Int×Int)→Option Int):(Int×Int)→Option Int:=fun(n27,i28)=>
 (bif decide (i28<(u9.redirs_.length:Int))then
  (lidx u9.redirs_ i28).bind fun u33=>
  (F32 u33).bind fun r36=>
  (bif r36 then
   (w31 u33.word_).bind fun r40=>
   again29 (IntKind.wrap .i64 (n27+r40),IntKind.wrap .i64 (i28+1))
  else
   again29 (n27,IntKind.wrap .i64 (i28+1)))
 else
  again5 (n27,IntKind.wrap .i64 (i4+1)))
def J5p(u9:Cmd)(w31:Y10)(again5:(Int×Int)→Option Int)(i4:Int)(again17:(Int×Int)→Option Int):(Int×Int)→Option Int:=fun(n15,i16)=>
 (bif decide (i16<(u9.words_.length:Int))then
  (lidx u9.words_ i16).bind fun u21=>
  (w31 u21).bind fun r24=>
  again17 (IntKind.wrap .i64 (n15+r24),IntKind.wrap .i64 (i16+1))
 else
  iter (J1j u9 w31 again5 i4) BIG (n15,0))
def Z7h(l1:List Cmd)(w15:Y7)(w31:Y10)(again5:(Int×Int)→Option Int):(Int×Int)→Option Int:=fun(n3,i4)=>
 (bif decide (i4<(l1.length:Int))then
  (lidx l1 i4).bind fun u9=>
  (w15 u9.kids_).bind fun r12=>
  iter (J5p u9 w31 again5 i4) BIG (IntKind.wrap .i64 (n3+(IntKind.wrap .i64 ((IntKind.wrap .i64 (1+(u9.redirs_.length:Int)))+r12))),0)
 else
  some n3)
def F15(w15:Y7)(w31:Y10)(l1:List Cmd):Option Int:=
 iter (Z7h l1 w15 w31) BIG (0,0)
def SQ13(n:FuncId)(F:(List Cmd)→Option (Int)):Spec:=mkS n F (fun a=>([.pv (.slice (List.map Cmd.pv a))],[])) (fun a b=>.ret [ai b] [])
def S15:=SQ13 15
def X2g(w1:Word)(w31:Y10)(again8:(Int×Int)→Option Int):(Int×Int)→Option Int:=fun(n6,i7)=>
 (bif decide (i7<(w1.words_.length:Int))then
  (lidx w1.words_ i7).bind fun u12=>
  (w31 u12).bind fun r15=>
  again8 (IntKind.wrap .i64 (n6+r15),IntKind.wrap .i64 (i7+1))
 else
  some n6)
def F31(w15:Y7)(w31:Y10)(w1:Word):Option Int:=
 (w15 w1.cmd_).bind fun r3=>
 iter (X2g w1 w31) BIG (IntKind.wrap .i64 (1+r3),0)
def SQ14(n:FuncId)(F:Word→Option (Int)):Spec:=mkS n F (fun a=>([.pv (PV.agg [.int .i64 a.kind_,.str a.text_,.str a.quoted_,.slice (List.map Word.pv a.words_),.slice (List.map Cmd.pv a.cmd_)])],[])) (fun a b=>.ret [ai b] [])
def S31:=SQ14 31
mutual
def K15:Nat→(List Cmd)→Option (Int)
 | 0=>fun _=>none
 | n+1=>F15 (K15 n) (K31 n)
def K31:Nat→Word→Option (Int)
 | 0=>fun _=>none
 | n+1=>F31 (K15 n) (K31 n)
end
def J1e(c1:Cmd)(w86:Y10)(again29:(Int×Int)→Option Int):(Int×Int)→Option Int:=fun(n27,i28)=>
 (bif decide (i28<(c1.redirs_.length:Int))then
  (lidx c1.redirs_ i28).bind fun u33=>
  (F32 u33).bind fun r36=>
  (bif r36 then
   (w86 u33.word_).bind fun r40=>
   again29 (imax n27 r40,IntKind.wrap .i64 (i28+1))
  else
   again29 (n27,IntKind.wrap .i64 (i28+1)))
 else
  some (IntKind.wrap .i64 (n27+1)))
def J5f(c1:Cmd)(w86:Y10)(again17:(Int×Int)→Option Int):(Int×Int)→Option Int:=fun(n15,i16)=>
 (bif decide (i16<(c1.words_.length:Int))then
  (lidx c1.words_ i16).bind fun u21=>
  (w86 u21).bind fun r24=>
  again17 (imax n15 r24,IntKind.wrap .i64 (i16+1))
 else
  iter (J1e c1 w86) BIG (n15,0))
def X2d(c1:Cmd)(w51:Y11)(w86:Y10)(again5:(Int×Int)→Option Int):(Int×Int)→Option Int:=fun(n3,i4)=>
 (bif decide (i4<(c1.kids_.length:Int))then
  (lidx c1.kids_ i4).bind fun u9=>
  (w51 u9).bind fun r12=>
  again5 (imax n3 r12,IntKind.wrap .i64 (i4+1))
 else
  iter (J5f c1 w86) BIG (n3,0))
def F51(w51:Y11)(w86:Y10)(c1:Cmd):Option Int:=
 iter (X2d c1 w51 w86) BIG (0,0)
def S51(F:Cmd→Option (Int)):Spec:=mkS 51 F (fun a=>([.pv (PV.agg [.int .i64 a.kind_,.int .i64 a.at_,.str a.name_,.slice (List.map Word.pv a.words_),.slice (List.map Redir.pv a.redirs_),.slice (List.map Cmd.pv a.kids_)])],[])) (fun a b=>.ret [ai b] [])
def J5a(w1:Word)(w51:Y11)(again17:(Int×Int)→Option Int):(Int×Int)→Option Int:=fun(n15,i16)=>
 (bif decide (i16<(w1.cmd_.length:Int))then
  (lidx w1.cmd_ i16).bind fun u21=>
  (w51 u21).bind fun r24=>
  again17 (imax n15 r24,IntKind.wrap .i64 (i16+1))
 else
  some (IntKind.wrap .i64 (n15+1)))
def X1z(w1:Word)(w86:Y10)(w51:Y11)(again5:(Int×Int)→Option Int):(Int×Int)→Option Int:=fun(n3,i4)=>
 (bif decide (i4<(w1.words_.length:Int))then
  (lidx w1.words_ i4).bind fun u9=>
  (w86 u9).bind fun r12=>
  again5 (imax n3 r12,IntKind.wrap .i64 (i4+1))
 else
  iter (J5a w1 w51) BIG (n3,0))
def F86(w51:Y11)(w86:Y10)(w1:Word):Option Int:=
 iter (X1z w1 w86 w51) BIG (0,0)
def S86:=SQ14 86
mutual
def K51:Nat→Cmd→Option (Int)
 | 0=>fun _=>none
 | n+1=>F51 (K51 n) (K86 n)
def K86:Nat→Word→Option (Int)
 | 0=>fun _=>none
 | n+1=>F86 (K51 n) (K86 n)
end
def F50(c1:Cmd):Option Bool:=
 (K51 BIG c1).bind fun r3=>
 some (decide (32<r3))
def SQ15(n:FuncId)(F:Cmd→Option (Bool)):Spec:=mkS n F (fun a=>([.pv (PV.agg [.int .i64 a.kind_,.int .i64 a.at_,.str a.name_,.slice (List.map Word.pv a.words_),.slice (List.map Redir.pv a.redirs_),.slice (List.map Cmd.pv a.kids_)])],[])) (fun a b=>.ret [ab b] [])
def S50:=SQ15 50 F50
def X2a(s1:List Cmd)(again4:Int→Option Int):Int→Option Int:=fun i3=>
 (bif decide (i3<(s1.length:Int))then
  (lidx s1 i3).bind fun u8=>
  (F50 u8).bind fun r11=>
  (bif r11 then
   some i3
  else
   again4 (IntKind.wrap .i64 (i3+1)))
 else
  some (-1))
def F85(s1:List Cmd):Option Int:=
 iter (X2a s1) BIG 0
def S85:Spec:=mkS 85 F85 (fun a=>([.pv (.slice (List.map Cmd.pv a)),.fn 50 []],[])) (fun a b=>.ret [ai b] [])
def F49(s1:List Cmd):Option Bool:=
 (F85 s1).bind fun r3=>
 some (decide (0≤r3))
def S49:Spec:=mkS 49 F49 (fun a=>([.pv (.slice (List.map Cmd.pv a)),.fn 50 []],[])) (fun a b=>.ret [ab b] [])
def F21(l1:List Cmd):Option Bool:=
 (K15 BIG l1).bind fun r3=>
 (bif decide (r3≤1024)then
  (F49 l1).bind fun r6=>
  some (!r6)
 else
  some false)
def SQ16(n:FuncId)(F:(List Cmd)→Option (Bool)):Spec:=mkS n F (fun a=>([.pv (.slice (List.map Cmd.pv a))],[])) (fun a b=>.ret [ab b] [])
def S21:=SQ16 21 F21
def F8(s1:Str):Option ((List Cmd)×Int×Int):=
 (F19 s1).bind fun(r5,r6,r7)=>
 (bif !decide (r7=0)then
  some ([],r6,r7)
 else
  (F20 s1 r5).bind fun(r11,r12,r13)=>
  (bif !decide (r13=0)then
   some ([],r12,r13)
  else
   (F21 r11).bind fun r17=>
   (bif !r17 then
    some ([],0,4)
   else
    some (r11,0,0))))
def SQ17(n:FuncId)(F:Str→Option ((List Cmd)×Int×Int)):Spec:=mkS n F (fun a=>([as_ a],[])) (fun a (b,c,d)=>.ret [.pv (.slice (List.map Cmd.pv b)),ai c,ai d] [])
def S8:=SQ17 8 F8
def F64(w98:Y8)(c1:Cmd):Option Bool:=
 (bif !decide (c1.kind_=14)then
  (w98 c1).bind fun r4=>
  some r4
 else
  none)
def S64(w98:Y8):=SQ15 64 (F64 w98)
def F63(w98:Y8)(c1:Cmd):Option Bool:=
 (F64 w98 c1).bind fun r3=>
 some (!r3)
def S63(w98:Y8):=SQ15 63 (F63 w98)
def J5b(s1:List Cmd)(w98:Y8)(again4:Int→Option Int):Int→Option Int:=fun i3=>
 (bif decide (i3<(s1.length:Int))then
  (lidx s1 i3).bind fun u8=>
  (F63 w98 u8).bind fun r11=>
  (bif r11 then
   some i3
  else
   again4 (IntKind.wrap .i64 (i3+1)))
 else
  some (-1))
def X5j(w98:Y8)(s1:List Cmd):Option Int:=
 iter (J5b s1 w98) BIG 0
def X5a(w98:Y8):Spec:=mkS 85 (X5j w98) (fun a=>([.pv (.slice (List.map Cmd.pv a)),.fn 63 []],[])) (fun a b=>.ret [ai b] [])
def X5k(w98:Y8)(s1:List Cmd):Option Bool:=
 (X5j w98 s1).bind fun r3=>
 some (decide (0≤r3))
def X5c(w98:Y8):Spec:=mkS 49 (X5k w98) (fun a=>([.pv (.slice (List.map Cmd.pv a)),.fn 63 []],[])) (fun a b=>.ret [ab b] [])
def F29(w98:Y8)(l1:List Cmd):Option Bool:=
 (X5k w98 l1).bind fun r3=>
 some (!r3)
def S29(w98:Y8):=SQ16 29 (F29 w98)
def F143(w182:Y8)(c1:Cmd):Option Bool:=
 (bif !decide (c1.kind_=3)then
  (w182 c1).bind fun r4=>
  some r4
 else
  none)
def S143(w182:Y8):=SQ15 143 (F143 w182)
def F98(w182:Y8)(c1:Cmd):Option Bool:=
 (bif (!decide (c1.kind_=5)&&!decide (c1.kind_=6))then
  (F143 w182 c1).bind fun r4=>
  some r4
 else
  none)
def S98:=SQ15 98
def F99(c1:Cmd)(s2:Shape):Option Bool:=
 (F144 c1.name_).bind fun r4=>
 (bif (!(s2.name_==r4)||(!s2.name_&&!decide (c1.name_=[])))then
  none
 else
  some ((s2.words_||decide ((c1.words_.length:Int)=0))&&(s2.redirs_||decide ((c1.redirs_.length:Int)=0))))
def S99:Spec:=mkS 99 (un2 F99) (fun(a,b)=>([.pv (PV.agg [.int .i64 a.kind_,.int .i64 a.at_,.str a.name_,.slice (List.map Word.pv a.words_),.slice (List.map Redir.pv a.redirs_),.slice (List.map Cmd.pv a.kids_)]),.pv (PV.agg [.bool b.name_,.bool b.words_,.bool b.redirs_])],[])) (fun(a,b) c=>.ret [ab c] [])
def X2j(s1:List Redir)(again3:Unit→Option Int):Unit→Option Int:=fun _=>
 (bif decide (0<(s1.length:Int))then
  none
 else
  some (-1))
def F262(s1:List Redir):Option Int:=
 iter (X2j s1) BIG ()
def S262:Spec:=mkS 262 F262 (fun a=>([.pv (.slice (List.map Redir.pv a)),.fn 236 []],[])) (fun a b=>.ret [ai b] [])
def F235(s1:List Redir):Option Bool:=
 (F262 s1).bind fun r3=>
 some (decide (0≤r3))
def S235:Spec:=mkS 235 F235 (fun a=>([.pv (.slice (List.map Redir.pv a)),.fn 236 []],[])) (fun a b=>.ret [ab b] [])
def F209(l1:List Redir):Option Bool:=
 (F235 l1).bind fun r3=>
 some (!r3)
def S209:Spec:=mkS 209 F209 (fun a=>([.pv (.slice (List.map Redir.pv a))],[])) (fun a b=>.ret [ab b] [])
def F210(w98:Y8)(c1:Cmd):Option Bool:=
 (Q0e (decide (c1.kind_=12)) (F99 c1 (Shape.mk false false false))).bind fun r3=>
 (Q0e (decide (c1.kind_=12)&&r3) (F29 w98 c1.kids_)).bind fun r6=>
 some ((decide (c1.kind_=12)&&r3)&&r6)
def S210(w98:Y8):=SQ15 210 (F210 w98)
def X2i(w1:Word)(again5:Int→Option Bool):Int→Option Bool:=fun i4=>
 (bif decide (i4<(w1.quoted_.length:Int))then
  (sidx w1.quoted_ i4).bind fun c9=>
  (bif (!decide (c9=48)&&!decide (c9=49))then
   none
  else
   again5 (IntKind.wrap .i64 (i4+1)))
 else
  some true)
def F263(w1:Word):Option Bool:=
 (bif !decide ((w1.text_.length:Int)=(w1.quoted_.length:Int))then
  none
 else
  iter (X2i w1) BIG 0)
def SQ18(n:FuncId)(F:Word→Option (Bool)):Spec:=mkS n F (fun a=>([.pv (PV.agg [.int .i64 a.kind_,.str a.text_,.str a.quoted_,.slice (List.map Word.pv a.words_),.slice (List.map Cmd.pv a.cmd_)])],[])) (fun a b=>.ret [ab b] [])
def S263:=SQ18 263 F263
def X2h(w1:Word)(again8:Int→Option Bool):Int→Option Bool:=fun i7=>
 (bif decide (i7<(w1.text_.length:Int))then
  (sidx w1.quoted_ i7).bind fun c12=>
  (Q0e (decide (c12=48)) (sidx w1.text_ i7)).bind fun c15=>
  (Q0e (decide (c12=48)) (Q0m [32,9,10,59,38,124,40,41,123,125,60,62,61,94,96,36,39] c15)).bind fun n18=>
  (Q0e (!(decide (c12=48)&&decide (0≤n18))&&(decide (c12=48)&&decide (i7=0))) (Q0m [35,33,64] c15)).bind fun n21=>
  (bif ((decide (c12=48)&&decide (0≤n18))||((decide (c12=48)&&decide (i7=0))&&decide (0≤n21)))then
   none
  else
   again8 (IntKind.wrap .i64 (i7+1)))
 else
  some true)
def F278(w1:Word):Option Bool:=
 (F263 w1).bind fun r3=>
 (bif !r3 then
  none
 else
  iter (X2h w1) BIG 0)
def S278:=SQ18 278 F278
def F260(w1:Word):Option Bool:=
 (F144 w1.text_).bind fun r3=>
 (bif decide (w1.kind_=1)then
  (Q0e (decide ((w1.words_.length:Int)=0)&&decide ((w1.cmd_.length:Int)=0)) (F278 w1)).bind fun r7=>
  some ((decide ((w1.words_.length:Int)=0)&&decide ((w1.cmd_.length:Int)=0))&&r7)
 else
  (bif (bif decide (w1.kind_=2)then decide (w1.kind_=2)else decide (w1.kind_=3))then
   some (((r3&&decide (w1.quoted_=[]))&&decide ((w1.cmd_.length:Int)=0))&&decide ((w1.words_.length:Int)=0))
  else
   none))
def S260:=SQ18 260 F260
def F234(w1:Word):Option Bool:=
 (bif !decide (w1.kind_=4)then
  (F260 w1).bind fun r4=>
  some r4
 else
  none)
def S234:=SQ18 234 F234
def F233(w1:Word):Option Bool:=
 (F234 w1).bind fun r3=>
 some (!r3)
def S233:=SQ18 233 F233
def X2k(s1:List Word)(again4:Int→Option Int):Int→Option Int:=fun i3=>
 (bif decide (i3<(s1.length:Int))then
  (lidx s1 i3).bind fun u8=>
  (F233 u8).bind fun r11=>
  (bif r11 then
   none
  else
   again4 (IntKind.wrap .i64 (i3+1)))
 else
  some (-1))
def F259(s1:List Word):Option Int:=
 iter (X2k s1) BIG 0
def S259:Spec:=mkS 259 F259 (fun a=>([.pv (.slice (List.map Word.pv a)),.fn 233 []],[])) (fun a b=>.ret [ai b] [])
def F232(s1:List Word):Option Bool:=
 (F259 s1).bind fun r3=>
 some (decide (0≤r3))
def S232:Spec:=mkS 232 F232 (fun a=>([.pv (.slice (List.map Word.pv a)),.fn 233 []],[])) (fun a b=>.ret [ab b] [])
def F207(l1:List Word):Option Bool:=
 (F232 l1).bind fun r3=>
 some (!r3)
def S207:Spec:=mkS 207 F207 (fun a=>([.pv (.slice (List.map Word.pv a))],[])) (fun a b=>.ret [ab b] [])
def F213(c1:Cmd):Option Bool:=
 (Q0e (!(decide (IntKind.wrap .i64 ((c1.words_.length:Int)+(c1.redirs_.length:Int))=0))) (F207 c1.words_)).bind fun r3=>
 (Q0e (!(decide (IntKind.wrap .i64 ((c1.words_.length:Int)+(c1.redirs_.length:Int))=0)||!r3)) (F209 c1.redirs_)).bind fun r6=>
 (bif ((decide (IntKind.wrap .i64 ((c1.words_.length:Int)+(c1.redirs_.length:Int))=0)||!r3)||!r6)then
  none
 else
  (bif decide ((c1.words_.length:Int)=0)then
   none
  else
   (lidx c1.words_ 0).bind fun u11=>
   (bif decide (u11.kind_=4)then
    none
   else
    (Q0e (decide (u11.kind_=1)) (Q0m u11.quoted_ 49)).bind fun n15=>
    (Q0e (decide (u11.kind_=1)&&decide (n15<0)) (F134 u11.text_)).bind fun r18=>
    some ((!((decide (u11.kind_=1)&&decide (n15<0))&&r18)||decide (u11.text_=[110,111,116]))||decide (u11.text_=[105,110])))))
def S213:=SQ15 213 F213
def F182(w98 w182:Y8)(c1:Cmd):Option Bool:=
 (bif decide (c1.kind_=2)then
  none
 else
  (bif (bif decide (c1.kind_=7)then decide (c1.kind_=7)else(bif decide (c1.kind_=13)then decide (c1.kind_=13)else decide (c1.kind_=9)))then
   none
  else
   (bif decide (c1.kind_=12)then
    (F99 c1 (Shape.mk false false true)).bind fun r8=>
    (Q0e r8 (F29 w98 c1.kids_)).bind fun r11=>
    (Q0e (r8&&r11) (F209 c1.redirs_)).bind fun r14=>
    some ((r8&&r11)&&r14)
   else
    (bif (bif decide (c1.kind_=8)then decide (c1.kind_=8)else decide (c1.kind_=11))then
     (F99 c1 (Shape.mk false false false)).bind fun r19=>
     (Q0e (r19&&decide ((c1.kids_.length:Int)=2)) (lidx c1.kids_ 0)).bind fun u22=>
     (Q0e (r19&&decide ((c1.kids_.length:Int)=2)) (F210 w98 u22)).bind fun r25=>
     (Q0e ((r19&&decide ((c1.kids_.length:Int)=2))&&r25) (lidx c1.kids_ 1)).bind fun u28=>
     (Q0e ((r19&&decide ((c1.kids_.length:Int)=2))&&r25) (w182 u28)).bind fun r31=>
     some (((r19&&decide ((c1.kids_.length:Int)=2))&&r25)&&r31)
    else
     (bif decide (c1.kind_=10)then
      none
     else
      (bif decide (c1.kind_=17)then
       none
      else
       (bif decide (c1.kind_=15)then
        none
       else
        (bif decide (c1.kind_=16)then
         (F99 c1 (Shape.mk false true false)).bind fun r38=>
         (Q0e ((r38&&decide (1≤(c1.words_.length:Int)))&&decide ((c1.kids_.length:Int)=0)) (F207 c1.words_)).bind fun r41=>
         some (((r38&&decide (1≤(c1.words_.length:Int)))&&decide ((c1.kids_.length:Int)=0))&&r41)
        else
         (bif decide (c1.kind_=1)then
          (F99 c1 (Shape.mk false true true)).bind fun r45=>
          (Q0e (r45&&decide ((c1.kids_.length:Int)=0)) (F213 c1)).bind fun r48=>
          some ((r45&&decide ((c1.kids_.length:Int)=0))&&r48)
         else
          none)))))))))
def S182:=SQ15 182
mutual
def K98:Nat→Cmd→Option (Bool)
 | 0=>fun _=>none
 | n+1=>F98 (K182 n)
def K182:Nat→Cmd→Option (Bool)
 | 0=>fun _=>none
 | n+1=>F182 (K98 n) (K182 n)
end
def F13(l1:List Cmd):Option Bool:=
 (F21 l1).bind fun r3=>
 (Q0e r3 (F29 (K98 BIG) l1)).bind fun r6=>
 some (r3&&r6)
def S13:=SQ16 13 F13
def F36(b1:Str)(l2:List Redir):Option Str:=some b1
def S36:Spec:=mkS 36 (un2 F36) (fun(a,b)=>([.ref 0 0],[.prn 5 a 51 9 (List.map Redir.pv b)])) (fun(a,b) c=>.ret [as_ c] [.prn 5 a 51 9 (List.map Redir.pv b)])
def F108(s1 suffix2:Str):Option Bool:=
 (F155 s1 suffix2).bind fun r4=>
 some r4
def S108:=SQ0 108 F108
def F163(b1:Str)(l2:List Redir):Option Unit:=some ()
def S163:Spec:=mkS 163 (un2 F163) (fun(a,b)=>([.ref 0 0],[.prn 5 a 51 9 (List.map Redir.pv b)])) (fun(a,b) (_:Unit)=>.ret [] [.prn 5 a 51 9 (List.map Redir.pv b)])
def F123(s1 b2:Str)(l3:List Redir):Option (Int×Str):=
 (F163 b2 l3).bind fun _=>
 (apS b2 s1).bind fun out9=>
 some ((s1.length:Int),out9)
def S123:Spec:=mkS 123 (un3 F123) (fun(a,b,c)=>([.ref 0 0,as_ a],[.prn 5 b 51 9 (List.map Redir.pv c)])) (fun(a,b,c) (d,e)=>.ret [ai d,.pv (.nil)] [.prn 5 e 51 9 (List.map Redir.pv c)])
def X3b(texts1:List Str)(l3:List Redir)(again7:(Int×Str)→Option Str):(Int×Str)→Option Str:=fun(i5,l6)=>
 (bif decide (i5<(texts1.length:Int))then
  (lidx texts1 i5).bind fun w11=>
  (F123 w11 l6 l3).bind fun(r14,o15)=>
  again7 (IntKind.wrap .i64 (i5+1),o15)
 else
  some l6)
def F103(texts1:List Str)(b2:Str)(l3:List Redir):Option Str:=
 iter (X3b texts1 l3) BIG (0,b2)
def S103:Spec:=mkS 103 (un3 F103) (fun(a,b,c)=>([.ref 0 0,.pv (.slice (List.map PV.str a))],[.prn 5 b 51 9 (List.map Redir.pv c)])) (fun(a,b,c) d=>.ret [] [.prn 5 d 51 9 (List.map Redir.pv c)])
def X7i(l2:List Redir)(o13:Str)(again17:Unit→Option (Str×(List Redir))):Unit→Option (Str×(List Redir)):=fun _=>
 (bif decide (0<(l2.length:Int))then
  none
 else
  some (o13,([]:List Redir)))
def F67(b1:Str)(l2:List Redir):Option (Str×(List Redir)):=
 (F36 b1 l2).bind fun r5=>
 (F108 r5 [92]).bind fun r9=>
 (bif r9 then
  none
 else
  (F103 [[10]] b1 l2).bind fun o13=>
  iter (X7i l2 o13) BIG ())
def S67:Spec:=mkS 67 (un2 F67) (fun(a,b)=>([.ref 0 0],[.prn 5 a 51 9 (List.map Redir.pv b)])) (fun(a,b) (c,d)=>.ret [] [.prn 5 c 51 9 (List.map Redir.pv d)])
def X7m(l1:List Cmd)(w66:Y5)(again9:(Int×Str×(List Redir))→Option (Str×(List Redir))):(Int×Str×(List Redir))→Option (Str×(List Redir)):=fun(i6,l7,m8)=>
 (bif decide (i6<(l1.length:Int))then
  (lidx l1 i6).bind fun u13=>
  (w66 u13 l7 m8).bind fun(r16,r17)=>
  (F67 r16 r17).bind fun(o21,m22)=>
  again9 (IntKind.wrap .i64 (i6+1),o21,m22)
 else
  some (l7,m8))
def F35(w66:Y5)(l1:List Cmd)(b2:Str)(l3:List Redir):Option (Str×(List Redir)):=
 iter (X7m l1 w66) BIG (0,b2,l3)
def S35(w66:Y5):Spec:=mkS 35 (un3 (F35 w66)) (fun(a,b,c)=>([.ref 0 0,.pv (.slice (List.map Cmd.pv a))],[.prn 5 b 51 9 (List.map Redir.pv c)])) (fun(a,b,c) (d,e)=>.ret [] [.prn 5 d 51 9 (List.map Redir.pv e)])
def F104(w66:Y5)(open1:Str)(l2:List Cmd)(closing3 b4:Str)(l5:List Redir):Option (Str×(List Redir)):=
 (F103 [open1] b4 l5).bind fun o8=>
 (F67 o8 l5).bind fun(o12,m13)=>
 (F35 w66 l2 o12 m13).bind fun(o17,m18)=>
 (F103 [closing3] o17 m18).bind fun o22=>
 some (o22,m18)
def S104(w66:Y5):Spec:=mkS 104 (un5 (F104 w66)) (fun(a,b,c,d,e)=>([.ref 0 0,as_ a,.pv (.slice (List.map Cmd.pv b)),as_ c],[.prn 5 d 51 9 (List.map Redir.pv e)])) (fun(a,b,c,d,e) (f,g)=>.ret [] [.prn 5 f 51 9 (List.map Redir.pv g)])
def X3a(l1:List Redir)(again4:Unit→Option Unit):Unit→Option Unit:=fun _=>
 (bif decide (0<(l1.length:Int))then
  none
 else
  some ())
def F105(l1:List Redir)(b2:Str)(l3:List Redir):Option Unit:=
 iter (X3a l1) BIG ()
def S105:Spec:=mkS 105 (un3 F105) (fun(a,b,c)=>([.ref 0 0,.pv (.slice (List.map Redir.pv a))],[.prn 5 b 51 9 (List.map Redir.pv c)])) (fun(a,b,c) (_:Unit)=>.ret [] [.prn 5 b 51 9 (List.map Redir.pv c)])
def X2n(w1:Word)(i6:Int)(l7:Str)(l3:List Redir)(again8:(Int×Str)→Option Str)(again13:Int→Option Str):Int→Option Str:=fun end12=>
 (Q0e (decide (end12<(w1.text_.length:Int))) (sidx w1.quoted_ end12)).bind fun c16=>
 (Q0e (decide (end12<(w1.text_.length:Int))) (sidx w1.quoted_ i6)).bind fun c19=>
 (bif (decide (end12<(w1.text_.length:Int))&&decide (c16=c19))then
  again13 (IntKind.wrap .i64 (end12+1))
 else
  (Q0t w1.text_ i6 end12).bind fun t23=>
  (sidx w1.quoted_ i6).bind fun c26=>
  (bif decide (c26=49)then
   (Q5i t23 [39] [39,39]).bind fun t30=>
   (catO [39] t30).bind fun s33=>
   (catO s33 [39]).bind fun s36=>
   (F103 [s36] l7 l3).bind fun o39=>
   again8 (end12,o39)
  else
   (F103 [t23] l7 l3).bind fun o43=>
   again8 (end12,o43)))
def X2o(w1:Word)(l3:List Redir)(again8:(Int×Str)→Option Str):(Int×Str)→Option Str:=fun(i6,l7)=>
 (bif decide (i6<(w1.text_.length:Int))then
  iter (X2n w1 i6 l7 l3 again8) BIG i6
 else
  some l7)
def F190(w1:Word)(b2:Str)(l3:List Redir):Option Str:=
 (bif decide (w1.text_=[])then
  none
 else
  iter (X2o w1 l3) BIG (0,b2))
def SQ19(n:FuncId)(F:Word→Str→(List Redir)→Option (Str)):Spec:=mkS n (un3 F) (fun(a,b,c)=>([.ref 0 0,.pv (PV.agg [.int .i64 a.kind_,.str a.text_,.str a.quoted_,.slice (List.map Word.pv a.words_),.slice (List.map Cmd.pv a.cmd_)])],[.prn 5 b 51 9 (List.map Redir.pv c)])) (fun(a,b,c) d=>.ret [] [.prn 5 d 51 9 (List.map Redir.pv c)])
def S190:=SQ19 190 F190
def F152(w1:Word)(b2:Str)(l3:List Redir):Option Str:=
 (bif decide (w1.kind_=1)then
  (F190 w1 b2 l3).bind fun o6=>
  some o6
 else
  (bif decide (w1.kind_=2)then
   (F103 [[36],w1.text_] b2 l3).bind fun o11=>
   some o11
  else
   none))
def S152:=SQ19 152 F152
def X2z(c1:Cmd)(l3:List Redir)(again7:(Int×Str)→Option Str):(Int×Str)→Option Str:=fun(i5,l6)=>
 (bif decide (i5<(c1.words_.length:Int))then
  (lidx c1.words_ i5).bind fun u11=>
  (bif decide (0<i5)then
   (F103 [[32]] l6 l3).bind fun o15=>
   (F152 u11 o15 l3).bind fun o19=>
   again7 (IntKind.wrap .i64 (i5+1),o19)
  else
   (F152 u11 l6 l3).bind fun o23=>
   again7 (IntKind.wrap .i64 (i5+1),o23))
 else
  (bif (decide ((c1.words_.length:Int)=0)&&decide (0<(c1.redirs_.length:Int)))then
   none
  else
   (F105 c1.redirs_ l6 l3).bind fun _=>
   some l6))
def F106(c1:Cmd)(b2:Str)(l3:List Redir):Option Str:=
 iter (X2z c1 l3) BIG (0,b2)
def S106:Spec:=mkS 106 (un3 F106) (fun(a,b,c)=>([.ref 0 0,.pv (PV.agg [.int .i64 a.kind_,.int .i64 a.at_,.str a.name_,.slice (List.map Word.pv a.words_),.slice (List.map Redir.pv a.redirs_),.slice (List.map Cmd.pv a.kids_)])],[.prn 5 b 51 9 (List.map Redir.pv c)])) (fun(a,b,c) d=>.ret [] [.prn 5 d 51 9 (List.map Redir.pv c)])
def X2v(l1:List Word)(l3:List Redir)(again7:(Int×Str)→Option Str):(Int×Str)→Option Str:=fun(i5,l6)=>
 (bif decide (i5<(l1.length:Int))then
  (lidx l1 i5).bind fun u11=>
  (F103 [[32]] l6 l3).bind fun o14=>
  (F152 u11 o14 l3).bind fun o18=>
  again7 (IntKind.wrap .i64 (i5+1),o18)
 else
  some l6)
def F153(l1:List Word)(b2:Str)(l3:List Redir):Option Str:=
 iter (X2v l1 l3) BIG (0,b2)
def S153:Spec:=mkS 153 (un3 F153) (fun(a,b,c)=>([.ref 0 0,.pv (.slice (List.map Word.pv a))],[.prn 5 b 51 9 (List.map Redir.pv c)])) (fun(a,b,c) d=>.ret [] [.prn 5 d 51 9 (List.map Redir.pv c)])
def F107(w66:Y5)(c1:Cmd)(b2:Str)(l3:List Redir):Option (Str×(List Redir)):=
 (bif decide (c1.kind_=2)then
  none
 else
  (bif decide (c1.kind_=8)then
   (lidx c1.kids_ 0).bind fun u8=>
   (F104 w66 [105,102,40] u8.kids_ [41,32] b2 l3).bind fun(o11,m12)=>
   (lidx c1.kids_ 1).bind fun u16=>
   (w66 u16 o11 m12).bind fun(r19,r20)=>
   some (r19,r20)
  else
   (bif decide (c1.kind_=11)then
    none
   else
    (bif decide (c1.kind_=10)then
     none
    else
     (bif decide (c1.kind_=17)then
      none
     else
      (bif decide (c1.kind_=15)then
       none
      else
       (bif decide (c1.kind_=16)then
        (F103 [[126]] b2 l3).bind fun o29=>
        (F153 c1.words_ o29 l3).bind fun o33=>
        some (o33,l3)
       else
        none)))))))
def SQ20(n:FuncId)(F:Cmd→Str→(List Redir)→Option (Str×(List Redir))):Spec:=mkS n (un3 F) (fun(a,b,c)=>([.ref 0 0,.pv (PV.agg [.int .i64 a.kind_,.int .i64 a.at_,.str a.name_,.slice (List.map Word.pv a.words_),.slice (List.map Redir.pv a.redirs_),.slice (List.map Cmd.pv a.kids_)])],[.prn 5 b 51 9 (List.map Redir.pv c)])) (fun(a,b,c) (d,e)=>.ret [] [.prn 5 d 51 9 (List.map Redir.pv e)])
def S107(w66:Y5):=SQ20 107 (F107 w66)
def F66(w66:Y5)(c1:Cmd)(b2:Str)(l3:List Redir):Option (Str×(List Redir)):=
 (bif decide (c1.kind_=14)then
  none
 else
  (bif decide (c1.kind_=5)then
   none
  else
   (bif decide (c1.kind_=6)then
    none
   else
    (bif decide (c1.kind_=3)then
     none
    else
     (bif decide (c1.kind_=7)then
      none
     else
      (bif decide (c1.kind_=13)then
       none
      else
       (bif decide (c1.kind_=9)then
        none
       else
        (bif decide (c1.kind_=12)then
         (F104 w66 [123] c1.kids_ [125] b2 l3).bind fun(o14,m15)=>
         (F105 c1.redirs_ o14 m15).bind fun _=>
         some (o14,m15)
        else
         (bif decide (c1.kind_=1)then
          (F106 c1 b2 l3).bind fun o23=>
          some (o23,l3)
         else
          (F107 w66 c1 b2 l3).bind fun(o27,m28)=>
          some (o27,m28))))))))))
def S66:=SQ20 66
def K66:Nat→Cmd→Str→(List Redir)→Option (Str×(List Redir))
 | 0=>fun _ _ _=>none
 | n+1=>F66 (K66 n)
def F17(l1:List Cmd):Option (Str×Int):=
 (F13 l1).bind fun r4=>
 (bif !r4 then
  none
 else
  (F35 (K66 BIG) l1 [] ([]:List Redir)).bind fun(o8,m9)=>
  (F36 o8 m9).bind fun r13=>
  some (r13,0))
def S17:Spec:=mkS 17 F17 (fun a=>([.pv (.slice (List.map Cmd.pv a))],[])) (fun a (b,c)=>.ret [as_ b,ai c] [])
def F7:Option Bool:=
 (F8 [105,102,40,126,32,36,120,32,97,41,123,101,99,104,111,32,39,98,32,99,39,125]).bind fun(r2,r3,r4)=>
 (Q0e (!((!decide (r4=0)||!decide (r3=0))||!decide ((r2.length:Int)=1))) (lidx r2 0)).bind fun u7=>
 (Q0e (!((((!decide (r4=0)||!decide (r3=0))||!decide ((r2.length:Int)=1))||!decide (u7.kind_=8))||!decide ((u7.kids_.length:Int)=2))) (K15 BIG r2)).bind fun r10=>
 (Q0e (!(((((!decide (r4=0)||!decide (r3=0))||!decide ((r2.length:Int)=1))||!decide (u7.kind_=8))||!decide ((u7.kids_.length:Int)=2))||!decide (r10=9))) (F13 r2)).bind fun r13=>
 (bif ((((((!decide (r4=0)||!decide (r3=0))||!decide ((r2.length:Int)=1))||!decide (u7.kind_=8))||!decide ((u7.kids_.length:Int)=2))||!decide (r10=9))||!r13)then
  some false
 else
  (F8 [97,32,124,32,124,32,98]).bind fun(r17,r18,r19)=>
  (bif (!decide (r18=4)||!decide (r19=47))then
   some false
  else
   (F17 r2).bind fun(r23,r24)=>
   some (decide (r23=[105,102,40,10,126,32,36,120,32,97,10,41,32,123,10,101,99,104,111,32,39,98,32,99,39,10,125,10])&&decide (r24=0))))
def S7(F:Option (Bool)):Spec:=mkS 7 (α:=Unit) (ρ:=Bool) (fun(_:Unit)=>F) (fun(_:Unit)=>([],[])) (fun(_:Unit) a=>.ret [ab a] [])
theorem S7_F(F:Option (Bool)):(S7 F).F ()=F:=rfl
def F135(c1:Int):Option Bool:=
 some (((((decide (97≤c1)&&decide (c1≤122))||(decide (65≤c1)&&decide (c1≤90)))||(decide (48≤c1)&&decide (c1≤57)))||decide (c1=95))||decide (c1=42))
def S135:=SQ4 135 F135
def F53(xat1 xend2:Int)(xname3:Bool)(xe4 xoff5 e6 off7:Int)(l8:List Token)(l9:List Str):Option (Int×Int×Bool×Int×Int):=
 some (xat1,xend2,xname3,(bif decide (xe4=0)then e6 else xe4),(bif decide (xe4=0)then off7 else xoff5))
def S53:Spec:=mkS 53 (un9 F53) (fun(a,b,c,d,e,f,g,h,i)=>([.agg [ai a,.vec 0 (List.length h),ai b,ab c,.vec 1 (List.length i),ai d,ai e],ai f,ai g],[rTo h,rSt i])) (fun(a,b,c,d,e,f,g,h,i) (j,k,l,m,n)=>.ret [.agg [ai j,.vec 0 (List.length h),ai k,ab l,.vec 1 (List.length i),ai m,ai n]] [rTo h,rSt i])
def F89(xat1 xend2:Int)(xname3:Bool)(xe4 xoff5:Int)(t6:Token)(l7:List Token)(l8:List Str):Option (Int×Int×Bool×Int×Int×(List Token)):=
 (bif decide (1024≤(l7.length:Int))then
  (F53 xat1 xend2 xname3 xe4 xoff5 4 t6.at_ l7 l8).bind fun(at16,end17,name18,e19,off20)=>
  some (at16,end17,name18,e19,off20,l7)
 else
  (appO 48 l7 [t6]).bind fun out24=>
  some (xat1,xend2,xname3,xe4,xoff5,out24))
def S89:Spec:=mkS 89 (un8 F89) (fun(a,b,c,d,e,f,g,h)=>([.agg [ai a,.vec 0 (List.length g),ai b,ab c,.vec 1 (List.length h),ai d,ai e],.pv (PV.agg [.int .i64 f.kind_,.int .i64 f.at_,.str f.text_,.str f.quoted_])],[rTo g,rSt h])) (fun(a,b,c,d,e,f,g,h) (i,j,k,l,m,n)=>.ret [.agg [ai i,.vec 0 (List.length n),ai j,ab k,.vec 1 (List.length h),ai l,ai m]] [rTo n,rSt h])
def X7e(s1:Str)(xat2 xend3:Int)(xname4:Bool)(xe5 xoff6:Int)(l7:List Token)(l8:List Str)(again17:(Int×Str)→Option (Int×Int×Bool×Int×Int×(List Token))):(Int×Str)→Option (Int×Int×Bool×Int×Int×(List Token)):=fun(to15,marks16)=>
 (Q0e (decide (to15<(s1.length:Int))) (sidx s1 to15)).bind fun c20=>
 (Q0e (decide (to15<(s1.length:Int))) (F135 c20)).bind fun r23=>
 (bif (decide (to15<(s1.length:Int))&&r23)then
  (catO marks16 [48]).bind fun s27=>
  again17 (IntKind.wrap .i64 (to15+1),s27)
 else
  (bif decide (to15=xat2)then
   (F53 xat2 xend3 xname4 xe5 xoff6 47 xat2 l7 l8).bind fun(at31,end32,name33,e34,off35)=>
   some (at31,end32,name33,e34,off35,l7)
  else
   (Q0t s1 xat2 to15).bind fun t39=>
   (F89 xat2 xend3 xname4 xe5 xoff6 (Token.mk 1 xat2 t39 marks16) l7 l8).bind fun(at42,end43,name44,e45,off46,o47)=>
   some (to15,to15,false,e45,off46,o47)))
def F87(s1:Str)(xat2 xend3:Int)(xname4:Bool)(xe5 xoff6:Int)(l7:List Token)(l8:List Str):Option (Int×Int×Bool×Int×Int×(List Token)):=
 iter (X7e s1 xat2 xend3 xname4 xe5 xoff6 l7 l8) BIG (xat2,[])
def S87:Spec:=mkS 87 (un8 F87) (fun(a,b,c,d,e,f,g,h)=>([as_ a,.agg [ai b,.vec 0 (List.length g),ai c,ab d,.vec 1 (List.length h),ai e,ai f]],[rTo g,rSt h])) (fun(a,b,c,d,e,f,g,h) (i,j,k,l,m,n)=>.ret [.agg [ai i,.vec 0 (List.length n),ai j,ab k,.vec 1 (List.length h),ai l,ai m]] [rTo n,rSt h])
def F88(s1:Str)(at2:Int):Option Int:=
 (Q0e (decide (at2<(s1.length:Int))) (sidx s1 at2)).bind fun c4=>
 (bif (decide (at2<(s1.length:Int))&&(decide (c4=32)||decide (c4=9)))then
  some 1
 else
  (Q0e (decide (IntKind.wrap .i64 (at2+1)<(s1.length:Int))) (sidx s1 at2)).bind fun c8=>
  (Q0e (decide (IntKind.wrap .i64 (at2+1)<(s1.length:Int))&&decide (c8=92)) (sidx s1 (IntKind.wrap .i64 (at2+1)))).bind fun c11=>
  (bif ((decide (IntKind.wrap .i64 (at2+1)<(s1.length:Int))&&decide (c8=92))&&decide (c11=10))then
   some 2
  else
   some 0))
def SQ21(n:FuncId)(F:Str→Int→Option (Int)):Spec:=mkS n (un2 F) (fun(a,b)=>([as_ a,ai b],[])) (fun(a,b) c=>.ret [ai c] [])
def S88:=SQ21 88 F88
def Q7w(s1:Str)(from8:Int)(end3:Str)(at2:Int)(again9:(Int)→Option (Str×Int×Int))(again14:Int→Option (Str×Int×Int)):Int→Option (Str×Int×Int):=fun to13=>
 (Q0e (decide (to13<(s1.length:Int))) (sidx s1 to13)).bind fun c17=>
 (bif (decide (to13<(s1.length:Int))&&!decide (c17=10))then
  again14 (IntKind.wrap .i64 (to13+1))
 else
  (Q0t s1 from8 to13).bind fun t21=>
  (bif decide (t21=end3)then
   (Q0t s1 at2 from8).bind fun t25=>
   some (t25,imin (IntKind.wrap .i64 (to13+1)) (s1.length:Int),0)
  else
   again9 (IntKind.wrap .i64 (to13+1))))
def Q5k(s1 end3:Str)(at2:Int)(again9:Int→Option (Str×Int×Int)):Int→Option (Str×Int×Int):=fun from8=>
 (bif decide (from8<(s1.length:Int))then
  iter (Q7w s1 from8 end3 at2 again9) BIG from8
 else
  some ([],0,3))
def F54(s1:Str)(at2:Int)(end3:Str):Option (Str×Int×Int):=
 (bif (decide (at2<0)||decide ((s1.length:Int)<at2))then
  some ([],0,1)
 else
  iter (Q5k s1 end3 at2) BIG at2)
def S54:=SQ1 54 F54
def X7d(l8:List Str)(s1:Str)(l7:List Token)(again20:(Int×Int×Int×Bool×Int×Int)→Option (Int×Int×Bool×Int×Int)):(Int×Int×Int×Bool×Int×Int)→Option (Int×Int×Bool×Int×Int):=fun(i14,x15,x16,x17,x18,x19)=>
 (bif (decide (i14<(l8.length:Int))&&decide (x18=0))then
  (lidx l8 i14).bind fun w24=>
  (F54 s1 x15 w24).bind fun(r27,r28,r29)=>
  (bif !decide (r29=0)then
   (F53 x15 x16 x17 x18 x19 r29 x15 l7 l8).bind fun(at33,end34,name35,e36,off37)=>
   again20 (IntKind.wrap .i64 (i14+1),at33,end34,name35,e36,off37)
  else
   again20 (IntKind.wrap .i64 (i14+1),r28,x16,x17,x18,x19))
 else
  some (x15,x16,x17,x18,x19))
def F90(s1:Str)(xat2 xend3:Int)(xname4:Bool)(xe5 xoff6:Int)(l7:List Token)(l8:List Str):Option (Int×Int×Bool×Int×Int):=
 iter (X7d l8 s1 l7) BIG (0,xat2,xend3,xname4,xe5,xoff6)
def S90:Spec:=mkS 90 (un8 F90) (fun(a,b,c,d,e,f,g,h)=>([as_ a,.agg [ai b,.vec 0 (List.length g),ai c,ab d,.vec 1 (List.length h),ai e,ai f]],[rTo g,rSt h])) (fun(a,b,c,d,e,f,g,h) (i,j,k,l,m)=>.ret [.agg [ai i,.vec 0 (List.length g),ai j,ab k,.nils,ai l,ai m]] [rTo g,rSt h])
def X2x(all2:Str)(c1:Int)(again5:Int→Option Bool):Int→Option Bool:=fun i4=>
 (bif decide (i4<(all2.length:Int))then
  (sidx all2 i4).bind fun c9=>
  (bif decide (c9=c1)then
   some true
  else
   again5 (IntKind.wrap .i64 (i4+1)))
 else
  some false)
def F136(c1:Int)(all2:Str):Option Bool:=
 iter (X2x all2 c1) BIG 0
def S136:Spec:=mkS 136 (un2 F136) (fun(a,b)=>([.pv (.int .u8 a),as_ b],[])) (fun(a,b) c=>.ret [ab c] [])
def F138(s1:Str)(at2:Int):Option Bool:=
 (Q0e (decide (at2<(s1.length:Int))) (F88 s1 at2)).bind fun r4=>
 (Q0e (decide (at2<(s1.length:Int))&&decide (r4=0)) (sidx s1 at2)).bind fun c7=>
 (Q0e (decide (at2<(s1.length:Int))&&decide (r4=0)) (F136 c7 [10,59,38,124,40,41,123,125,60,62,61,94,96,36,39])).bind fun r10=>
 some ((decide (at2<(s1.length:Int))&&decide (r4=0))&&!r10)
def S138:Spec:=mkS 138 (un2 F138) (fun(a,b)=>([as_ a,ai b],[])) (fun(a,b) c=>.ret [ab c] [])
def Z9d(s1 x5 x6:Str)(again7:(Int×Str×Str)→Option Part):Int→Option Part:=fun i11=>
 (Q0t s1 i11 (IntKind.wrap .i64 (i11+1))).bind fun t12=>
 (catO x5 t12).bind fun s15=>
 (catO x6 [49]).bind fun s18=>
 again7 (IntKind.wrap .i64 (i11+1),s15,s18)
def J3k(s1:Str)(at2:Int)(again7:(Int×Str×Str)→Option Part):(Int×Str×Str)→Option Part:=fun(i4,x5,x6)=>
 (bif decide (i4<(s1.length:Int))then
  (sidx s1 i4).bind fun c21=>
  (bif decide (c21=39)then
   (Q0e (!(decide (IntKind.wrap .i64 (i4+1)=(s1.length:Int)))) (sidx s1 (IntKind.wrap .i64 (i4+1)))).bind fun c25=>
   (bif (decide (IntKind.wrap .i64 (i4+1)=(s1.length:Int))||!decide (c25=39))then
    some (Part.mk x5 x6 (IntKind.wrap .i64 (i4+1)) true)
   else
    Z9d s1 x5 x6 again7 (IntKind.wrap .i64 (i4+1)))
  else
   Z9d s1 x5 x6 again7 i4)
 else
  some (Part.mk [] [] at2 false))
def F139(s1:Str)(at2:Int):Option Part:=
 iter (J3k s1 at2) BIG (IntKind.wrap .i64 (at2+1),[],[])
def SQ22(n:FuncId)(F:Str→Int→Option (Part)):Spec:=mkS n (un2 F) (fun(a,b)=>([as_ a,ai b],[])) (fun(a,b) c=>.ret [.pv (PV.agg [.str c.text_,.str c.quoted_,.int .i64 c.to_,.bool c.ok_])] [])
def S139:=SQ22 139 F139
def X7b(s1:Str)(again8:(Str×Str×Int×Bool)→Option Part):(Str×Str×Int×Bool)→Option Part:=fun(x4,x5,x6,x7)=>
 (F138 s1 x6).bind fun r11=>
 (Q0e (!r11&&decide (x6<(s1.length:Int))) (sidx s1 x6)).bind fun c14=>
 (bif (r11||(decide (x6<(s1.length:Int))&&decide (c14=39)))then
  (sidx s1 x6).bind fun c18=>
  (bif decide (c18=39)then
   (F139 s1 x6).bind fun r22=>
   (bif !r22.ok_ then
    some r22
   else
    (catO x4 r22.text_).bind fun s26=>
    (catO x5 r22.quoted_).bind fun s29=>
    again8 (s26,s29,r22.to_,true))
  else
   (Q0t s1 x6 (IntKind.wrap .i64 (x6+1))).bind fun t32=>
   (catO x4 t32).bind fun s35=>
   (catO x5 [48]).bind fun s38=>
   again8 (s35,s38,IntKind.wrap .i64 (x6+1),true))
 else
  some (Part.mk x4 x5 x6 x7))
def F94(s1:Str)(at2:Int):Option Part:=
 iter (X7b s1) BIG ([],[],at2,true)
def S94:=SQ22 94 F94
def X7c(s1:Str)(xat2 xend3:Int)(xname4:Bool)(xe5 xoff6:Int)(l7:List Token)(l8:List Str)(again17:Int→Option (Int×Int×Bool×Int×Int×(List Token)×(List Str))):Int→Option (Int×Int×Bool×Int×Int×(List Token)×(List Str)):=fun to16=>
 (F88 s1 to16).bind fun r20=>
 (bif decide (0<r20)then
  again17 (IntKind.wrap .i64 (to16+r20))
 else
  (F94 s1 to16).bind fun r24=>
  (bif !r24.ok_ then
   (F53 xat2 xend3 xname4 xe5 xoff6 48 r24.to_ l7 l8).bind fun(at28,end29,name30,e31,off32)=>
   some (at28,end29,name30,e31,off32,l7,l8)
  else
   (bif decide (r24.to_=to16)then
    (F53 xat2 xend3 xname4 xe5 xoff6 47 to16 l7 l8).bind fun(at37,end38,name39,e40,off41)=>
    some (at37,end38,name39,e40,off41,l7,l8)
   else
    (F89 xat2 xend3 xname4 xe5 xoff6 (Token.mk 4 xat2 r24.text_ r24.quoted_) l7 l8).bind fun(at45,end46,name47,e48,off49,o50)=>
    (appO 16 l8 [r24.text_]).bind fun out54=>
    some (r24.to_,(-1),name47,e48,off49,o50,out54))))
def F91(s1:Str)(xat2 xend3:Int)(xname4:Bool)(xe5 xoff6:Int)(l7:List Token)(l8:List Str):Option (Int×Int×Bool×Int×Int×(List Token)×(List Str)):=
 iter (X7c s1 xat2 xend3 xname4 xe5 xoff6 l7 l8) BIG (IntKind.wrap .i64 (xat2+2))
def S91:Spec:=mkS 91 (un8 F91) (fun(a,b,c,d,e,f,g,h)=>([as_ a,.agg [ai b,.vec 0 (List.length g),ai c,ab d,.vec 1 (List.length h),ai e,ai f]],[rTo g,rSt h])) (fun(a,b,c,d,e,f,g,h) (i,j,k,l,m,n,o)=>.ret [.agg [ai i,.vec 0 (List.length n),ai j,ab k,.vec 1 (List.length o),ai l,ai m]] [rTo n,rSt o])
def X2u(s1:Str)(at2:Int)(again6:(Int×Int)→Option Int):(Int×Int)→Option Int:=fun(n4,to5)=>
 (Q0e (decide (to5<(s1.length:Int))) (sidx s1 to5)).bind fun c9=>
 (bif (((decide (to5<(s1.length:Int))&&decide (48≤c9))&&decide (c9≤57))&&decide (to5<IntKind.wrap .i64 (at2+3)))then
  (sidx s1 to5).bind fun c13=>
  again6 (IntKind.wrap .i64 ((IntKind.wrap .i64 (10 * n4))+(IntKind.wrap .i64 (IntKind.wrap .u8 (c13-48)))),IntKind.wrap .i64 (to5+1))
 else
  (Q0e (!(decide (to5=at2)||decide (64≤n4))&&decide (IntKind.wrap .i64 (at2+1)<to5)) (sidx s1 at2)).bind fun c16=>
  (bif ((decide (to5=at2)||decide (64≤n4))||(decide (IntKind.wrap .i64 (at2+1)<to5)&&decide (c16=48)))then
   some (-1)
  else
   some to5))
def F170(s1:Str)(at2:Int):Option Int:=
 iter (X2u s1 at2) BIG (0,at2)
def S170:=SQ21 170 F170
def Z5n(s1:Str):Int→Option Int:=fun to8=>
 (Q0e (!(decide (to8<0)||decide ((s1.length:Int)≤to8))) (sidx s1 to8)).bind fun c9=>
 (bif ((decide (to8<0)||decide ((s1.length:Int)≤to8))||!decide (c9=93))then
  some (-1)
 else
  some (IntKind.wrap .i64 (to8+1)))
def F137(s1:Str)(at2:Int)(equal3:Bool):Option Int:=
 (F170 s1 (IntKind.wrap .i64 (at2+1))).bind fun r5=>
 (Q0e (decide (0≤r5)&&decide (r5<(s1.length:Int))) (sidx s1 r5)).bind fun c13=>
 (bif (((decide (0≤r5)&&decide (r5<(s1.length:Int)))&&decide (c13=61))&&equal3)then
  (Q0e (decide (IntKind.wrap .i64 (r5+1)<(s1.length:Int))) (sidx s1 (IntKind.wrap .i64 (r5+1)))).bind fun c17=>
  (bif (decide (IntKind.wrap .i64 (r5+1)<(s1.length:Int))&&!decide (c17=93))then
   (F170 s1 (IntKind.wrap .i64 (r5+1))).bind fun r21=>
   Z5n s1 r21
  else
   Z5n s1 (IntKind.wrap .i64 (r5+1)))
 else
  Z5n s1 r5)
def S137:Spec:=mkS 137 (un3 F137) (fun(a,b,c)=>([as_ a,ai b,ab c],[])) (fun(a,b,c) d=>.ret [ai d] [])
def J4z(at2:Int)(s1:Str):Str→Option Int:=fun two4=>
 (bif ((decide (two4=[38,38])||decide (two4=[124,124]))||decide (two4=[36,35]))then
  some (IntKind.wrap .i64 (at2+2))
 else
  (sidx s1 at2).bind fun c6=>
  (F136 c6 [59,38,124,40,41,123,125,60,62,61,94,96,36,33,64]).bind fun r9=>
  (bif !r9 then
   some at2
  else
   (F136 c6 [60,62,124]).bind fun r14=>
   (Q0e (r14&&decide ((bif decide (two4=[62,62])then IntKind.wrap .i64 (at2+2)else IntKind.wrap .i64 (at2+1))<(s1.length:Int))) (sidx s1 (bif decide (two4=[62,62])then IntKind.wrap .i64 (at2+2)else IntKind.wrap .i64 (at2+1)))).bind fun c17=>
   (bif ((r14&&decide ((bif decide (two4=[62,62])then IntKind.wrap .i64 (at2+2)else IntKind.wrap .i64 (at2+1))<(s1.length:Int)))&&decide (c17=91))then
    (F137 s1 (bif decide (two4=[62,62])then IntKind.wrap .i64 (at2+2)else IntKind.wrap .i64 (at2+1)) (!decide (c6=124))).bind fun r21=>
    some r21
   else
    some (bif decide (two4=[62,62])then IntKind.wrap .i64 (at2+2)else IntKind.wrap .i64 (at2+1)))))
def F92(s1:Str)(at2:Int):Option Int:=
 (bif decide (IntKind.wrap .i64 (at2+2)≤(s1.length:Int))then
  (Q0t s1 at2 (IntKind.wrap .i64 (at2+2))).bind fun t25=>
  J4z at2 s1 t25
 else
  J4z at2 s1 [])
def S92:=SQ21 92 F92
def F93(xat1 xend2:Int)(xname3:Bool)(xe4 xoff5:Int)(l6:List Token)(l7:List Str):Option (Int×Int×Bool×Int×Int×(List Token)):=
 (bif decide (xend2=xat1)then
  (F89 xat1 xend2 xname3 xe4 xoff5 (Token.mk 2 xat1 [94] []) l6 l7).bind fun(at15,end16,name17,e18,off19,o20)=>
  some (at15,end16,name17,e18,off19,o20)
 else
  some (xat1,xend2,xname3,xe4,xoff5,l6))
def S93:Spec:=mkS 93 (un7 F93) (fun(a,b,c,d,e,f,g)=>([.agg [ai a,.vec 0 (List.length f),ai b,ab c,.vec 1 (List.length g),ai d,ai e]],[rTo f,rSt g])) (fun(a,b,c,d,e,f,g) (h,i,j,k,l,m)=>.ret [.agg [ai h,.vec 0 (List.length m),ai i,ab j,.vec 1 (List.length g),ai k,ai l]] [rTo m,rSt g])
def X7l(s1:Str)(xname4:Bool)(xe5 xoff6:Int)(l7:List Token)(l8:List Str)(again36:Int→Option (Bool×Int×Int×Bool×Int×Int×(List Token)×(List Str))):Int→Option (Bool×Int×Int×Bool×Int×Int×(List Token)×(List Str)):=fun x35=>
 (Q0e (decide (x35<(s1.length:Int))) (sidx s1 x35)).bind fun c39=>
 (bif (decide (x35<(s1.length:Int))&&!decide (c39=10))then
  again36 (IntKind.wrap .i64 (x35+1))
 else
  some (true,x35,(-1),xname4,xe5,xoff6,l7,l8))
def X7k(s1:Str)(xat2 xend3:Int)(xname4:Bool)(xe5 xoff6:Int)(l7:List Token)(l8:List Str)(again81:Int→Option (Bool×Int×Int×Bool×Int×Int×(List Token)×(List Str))):Int→Option (Bool×Int×Int×Bool×Int×Int×(List Token)×(List Str)):=fun open80=>
 (sidx s1 open80).bind fun c84=>
 (bif !decide (c84=91)then
  again81 (IntKind.wrap .i64 (open80+1))
 else
  (F53 xat2 xend3 xname4 xe5 xoff6 47 open80 l7 l8).bind fun(at88,end89,name90,e91,off92)=>
  some (true,at88,end89,name90,e91,off92,l7,l8))
def J5e(s1:Str)(r76:Int)(l8:List Str):((List Token)×Int×Int×Bool×Int×Int)→Option (Bool×Int×Int×Bool×Int×Int×(List Token)×(List Str)):=fun(l98,x99,x100,x101,x102,x103)=>
 (Q0t s1 x99 r76).bind fun t104=>
 (F89 x99 x100 x101 x102 x103 (Token.mk 2 x99 t104 []) l98 l8).bind fun(at107,end108,name109,e110,off111,o112)=>
 (sidx s1 at107).bind fun c116=>
 some (true,r76,(-1),decide (c116=36),e110,off111,o112,l8)
def F52(s1:Str)(xat2 xend3:Int)(xname4:Bool)(xe5 xoff6:Int)(l7:List Token)(l8:List Str):Option (Bool×Int×Int×Bool×Int×Int×(List Token)×(List Str)):=
 (bif xname4 then
  (F87 s1 xat2 xend3 xname4 xe5 xoff6 l7 l8).bind fun(at18,end19,name20,e21,off22,o23)=>
  some (true,at18,end19,name20,e21,off22,o23,l8)
 else
  (F88 s1 xat2).bind fun r27=>
  (bif decide (0<r27)then
   some (true,IntKind.wrap .i64 (xat2+r27),(-1),xname4,xe5,xoff6,l7,l8)
  else
   (sidx s1 xat2).bind fun c31=>
   (bif decide (c31=35)then
    iter (X7l s1 xname4 xe5 xoff6 l7 l8) BIG xat2
   else
    (bif decide (c31=10)then
     (F89 xat2 xend3 xname4 xe5 xoff6 (Token.mk 3 xat2 [10] []) l7 l8).bind fun(at45,end46,name47,e48,off49,o50)=>
     (F90 s1 (IntKind.wrap .i64 (at45+1)) (-1) name47 e48 off49 o50 l8).bind fun(at54,end55,name56,e57,off58)=>
     some (false,at54,end55,name56,e57,off58,o50,l8)
    else
     (Q0e (decide (IntKind.wrap .i64 (xat2+2)≤(s1.length:Int))) (Q0t s1 xat2 (IntKind.wrap .i64 (xat2+2)))).bind fun t62=>
     (bif (decide (IntKind.wrap .i64 (xat2+2)≤(s1.length:Int))&&decide (t62=[60,60]))then
      (F91 s1 xat2 xend3 xname4 xe5 xoff6 l7 l8).bind fun(at66,end67,name68,e69,off70,o71,o72)=>
      some (true,at66,end67,name68,e69,off70,o71,o72)
     else
      (F92 s1 xat2).bind fun r76=>
      (bif decide (r76<0)then
       iter (X7k s1 xat2 xend3 xname4 xe5 xoff6 l7 l8) BIG (IntKind.wrap .i64 (xat2+1))
      else
       (bif decide (xat2<r76)then
        (bif (decide (c31=36)||decide (c31=96))then
         (F93 xat2 xend3 xname4 xe5 xoff6 l7 l8).bind fun(at120,end121,name122,e123,off124,o125)=>
         J5e s1 r76 l8 (o125,at120,end121,name122,e123,off124)
        else
         J5e s1 r76 l8 (l7,xat2,xend3,xname4,xe5,xoff6))
       else
        (F94 s1 xat2).bind fun r129=>
        (bif !r129.ok_ then
         (F53 xat2 xend3 xname4 xe5 xoff6 48 r129.to_ l7 l8).bind fun(at133,end134,name135,e136,off137)=>
         some (true,at133,end134,name135,e136,off137,l7,l8)
        else
         (F93 xat2 xend3 xname4 xe5 xoff6 l7 l8).bind fun(at141,end142,name143,e144,off145,o146)=>
         (F89 at141 end142 name143 e144 off145 (Token.mk 1 xat2 r129.text_ r129.quoted_) o146 l8).bind fun(at150,end151,name152,e153,off154,o155)=>
         some (true,r129.to_,r129.to_,name152,e153,off154,o155,l8)))))))))
def S52:Spec:=mkS 52 (un8 F52) (fun(a,b,c,d,e,f,g,h)=>([as_ a,.agg [ai b,.vec 0 (List.length g),ai c,ab d,.vec 1 (List.length h),ai e,ai f]],[rTo g,rSt h])) (fun(a,b,c,d,e,f,g,h) (i,j,k,l,m,n,o,p)=>.ret (bif i then[.agg [ai j,.vec 0 (List.length o),ai k,ab l,.vec 1 (List.length p),ai m,ai n]]else[.agg [ai j,.vec 0 (List.length o),ai k,ab l,.nils,ai m,ai n]]) (bif i then[rTo o,rSt p]else[rTo o,rSt p]))
def J5l(l11:List Token):(Int×Int×Bool×Int×Int)→Option ((List Token)×Int×Int):=fun(x33,x34,x35,x36,x37)=>
 (bif !decide (x36=0)then
  some ([],x37,x36)
 else
  some (l11,0,0))
def J5m(l12:List Str)(s1:Str)(l11:List Token):(Int×Int×Bool×Int×Int)→Option ((List Token)×Int×Int):=fun(x28,x29,x30,x31,x32)=>
 (bif decide (0<(l12.length:Int))then
  (F53 x28 x29 x30 x31 x32 3 (s1.length:Int) l11 l12).bind fun(at40,end41,name42,e43,off44)=>
  J5l l11 (at40,end41,name42,e43,off44)
 else
  J5l l11 (x28,x29,x30,x31,x32))
def X7n(s1:Str)(again13:(Int×Int×Bool×Int×Int×(List Token)×(List Str))→Option ((List Token)×Int×Int)):(Int×Int×Bool×Int×Int×(List Token)×(List Str))→Option ((List Token)×Int×Int):=fun(x6,x7,x8,x9,x10,l11,l12)=>
 (bif (decide (x9=0)&&decide (x6<(s1.length:Int)))then
  (F52 s1 x6 x7 x8 x9 x10 l11 l12).bind fun(tag17,at18,end19,name20,e21,off22,o23,o24)=>
  (bif tag17 then
   again13 (at18,end19,name20,e21,off22,o23,o24)
  else
   again13 (at18,end19,name20,e21,off22,o23,([]:List Str)))
 else
  (bif x8 then
   (F53 x6 x7 x8 x9 x10 47 x6 l11 l12).bind fun(at49,end50,name51,e52,off53)=>
   J5m l12 s1 l11 (at49,end50,name51,e52,off53)
  else
   J5m l12 s1 l11 (x6,x7,x8,x9,x10)))
def F22(s1:Str):Option ((List Token)×Int×Int):=
 (bif decide (65536<(s1.length:Int))then
  some ([],0,4)
 else
  iter (X7n s1) BIG (0,(-1),false,0,0,([]:List Token),([]:List Str)))
def S22:=SQ6 22 F22
def Z5g(i8:Int)(t2:List Token)(s1:Str)(again10:(Int×Int×(List Str))→Option (List Str))(again21:(Int×Int×(List Str))→Option (List Str)):(Int×Int×(List Str))→Option (List Str):=fun(at18,k19,l20)=>
 (bif decide (k19<i8)then
  (lidx t2 k19).bind fun u25=>
  (bif decide (u25.kind_=4)then
   (F54 s1 at18 u25.text_).bind fun(r29,r30,r31)=>
   (lidx l20 k19).bind fun w34=>
   again21 (r30,IntKind.wrap .i64 (k19+1),List.set l20 (Int.toNat k19) r29)
  else
   again21 (at18,IntKind.wrap .i64 (k19+1),l20))
 else
  again10 (i8,IntKind.wrap .i64 (i8+1),l20))
def Q9a(t2:List Token)(s1:Str)(again10:(Int×Int×(List Str))→Option (List Str)):(Int×Int×(List Str))→Option (List Str):=fun(first7,i8,l9)=>
 (bif decide (i8<(t2.length:Int))then
  (lidx t2 i8).bind fun u14=>
  (bif !decide (u14.kind_=3)then
   again10 (first7,IntKind.wrap .i64 (i8+1),l9)
  else
   iter (Z5g i8 t2 s1 again10) BIG (IntKind.wrap .i64 (u14.at_+1),first7,l9))
 else
  some l9)
def F23(s1:Str)(t2:List Token):Option (List Str):=
 (mkO 16 (t2.length:Int)).bind fun u4=>
 iter (Q9a t2 s1) BIG (0,0,List.replicate (Int.toNat (t2.length:Int)) ([]:Str))
def S23:=SQ7 23 F23
def F59(x1:Str)(x2:List Token)(x3:List Str)(x4 x5 x6:Int):Option Token:=
 (bif decide (x4<(x2.length:Int))then
  (lidx x2 x4).bind fun u9=>
  some u9
 else
  some (Token.mk 0 (x1.length:Int) [] []))
def S59:Spec:=mkS 59 (un6 F59) (fun(a,b,c,d,e,f)=>([.ref 0 0],[V27 a b c d e f])) (fun(a,b,c,d,e,f) g=>.ret [.pv (PV.agg [.int .i64 g.kind_,.int .i64 g.at_,.str g.text_,.str g.quoted_])] [V27 a b c d e f])
def F58(s1 x2:Str)(x3:List Token)(x4:List Str)(x5 x6 x7:Int):Option Bool:=
 (F59 x2 x3 x4 x5 x6 x7).bind fun r9=>
 some (decide (r9.kind_=2)&&decide (r9.text_=s1))
def SQ23(n:FuncId)(F:Str→Str→(List Token)→(List Str)→Int→Int→Int→Option (Bool)):Spec:=mkS n (un7 F) (fun(a,b,c,d,e,f,g)=>([.ref 0 0,as_ a],[V27 b c d e f g])) (fun(a,b,c,d,e,f,g) h=>.ret [ab h] [V27 b c d e f g])
def S58:=SQ23 58 F58
def Z5d(x1:Str)(x2:List Token)(x3:List Str)(x5 x6:Int)(again9:Int→Option Int):Int→Option Int:=fun x8=>
 (F59 x1 x2 x3 x8 x5 x6).bind fun r12=>
 (bif decide (r12.kind_=3)then
  again9 (IntKind.wrap .i64 (x8+1))
 else
  (F58 [59] x1 x2 x3 x8 x5 x6).bind fun r16=>
  (bif r16 then
   again9 (IntKind.wrap .i64 (x8+1))
  else
   some x8))
def F55(x1:Str)(x2:List Token)(x3:List Str)(x4 x5 x6:Int):Option Int:=
 iter (Z5d x1 x2 x3 x5 x6) BIG x4
def SQ24(n:FuncId)(F:Str→(List Token)→(List Str)→Int→Int→Int→Option (Int)):Spec:=mkS n (un6 F) (fun(a,b,c,d,e,f)=>([.ref 0 0],[V27 a b c d e f])) (fun(a,b,c,d,e,f) g=>.ret [] [V27 a b c g e f])
def S55:=SQ24 55 F55
def J3h(quoted1:Str)(again4:Int→Option Bool):Int→Option Bool:=fun i3=>
 (bif decide (i3<(quoted1.length:Int))then
  (sidx quoted1 i3).bind fun c8=>
  (bif decide (c8=49)then
   some true
  else
   again4 (IntKind.wrap .i64 (i3+1)))
 else
  some false)
def F171(quoted1:Str):Option Bool:=
 iter (J3h quoted1) BIG 0
def S171:=SQ3 171 F171
def F140(s1 x2:Str)(x3:List Token)(x4:List Str)(x5 x6 x7:Int):Option Bool:=
 (F59 x2 x3 x4 x5 x6 x7).bind fun r9=>
 (Q0e (decide (r9.kind_=1)&&decide (r9.text_=s1)) (F171 r9.quoted_)).bind fun r13=>
 some ((decide (r9.kind_=1)&&decide (r9.text_=s1))&&!r13)
def S140:=SQ23 140 F140
def J3g(s1:Str)(again4:Int→Option Bool):Int→Option Bool:=fun i3=>
 (bif decide (i3<(s1.length:Int))then
  (sidx s1 i3).bind fun c8=>
  (bif !(((((decide (97≤c8)&&decide (c8≤122))||(decide (65≤c8)&&decide (c8≤90)))||(decide (48≤c8)&&decide (c8≤57)))||decide (c8=95))||decide (c8=42))then
   some false
  else
   again4 (IntKind.wrap .i64 (i3+1)))
 else
  some (!decide (s1=[])))
def F172(s1:Str):Option Bool:=
 iter (J3g s1) BIG 0
def S172:=SQ3 172 F172
def F141(x1:Str)(x2:List Token)(x3:List Str)(x4 x5 x6:Int):Option Bool:=
 (F59 x1 x2 x3 x4 x5 x6).bind fun r8=>
 (Q0e (decide (r8.kind_=1)) (F171 r8.quoted_)).bind fun r12=>
 (Q0e (!(!decide (r8.kind_=1)||r12)) (F172 r8.text_)).bind fun r15=>
 (bif (((!decide (r8.kind_=1)||r12)||!r15)||decide ((x2.length:Int)≤IntKind.wrap .i64 (x4+1)))then
  some false
 else
  (lidx x2 (IntKind.wrap .i64 (x4+1))).bind fun u19=>
  some (decide (u19.kind_=2)&&decide (u19.text_=[61])))
def SQ25(n:FuncId)(F:Str→(List Token)→(List Str)→Int→Int→Int→Option (Bool)):Spec:=mkS n (un6 F) (fun(a,b,c,d,e,f)=>([.ref 0 0],[V27 a b c d e f])) (fun(a,b,c,d,e,f) g=>.ret [ab g] [V27 a b c d e f])
def S141:=SQ25 141 F141
def F95(x1:Str)(x2:List Token)(x3:List Str)(x4 x5 x6:Int):Option Bool:=
 (F140 [99,97,115,101] x1 x2 x3 x4 x5 x6).bind fun r8=>
 (bif r8 then
  (F141 x1 x2 x3 x4 x5 x6).bind fun r12=>
  some (!r12)
 else
  some false)
def S95:=SQ25 95 F95
def F56(end1 x2:Str)(x3:List Token)(x4:List Str)(x5 x6 x7:Int):Option Bool:=
 (bif decide (end1=[])then
  some (decide ((x3.length:Int)≤x5))
 else
  (bif decide (end1=[99,97,115,101])then
   (F95 x2 x3 x4 x5 x6 x7).bind fun r11=>
   (bif r11 then
    some true
   else
    (F58 [125] x2 x3 x4 x5 x6 x7).bind fun r15=>
    some r15)
  else
   (F58 end1 x2 x3 x4 x5 x6 x7).bind fun r19=>
   some r19))
def S56:=SQ23 56 F56
def Z0r(x1:Str)(x2:List Token)(x3:List Str)(x5 x6:Int)(again9:Int→Option Int):Int→Option Int:=fun x8=>
 (F59 x1 x2 x3 x8 x5 x6).bind fun r12=>
 (bif decide (r12.kind_=3)then
  again9 (IntKind.wrap .i64 (x8+1))
 else
  some x8)
def F97(x1:Str)(x2:List Token)(x3:List Str)(x4 x5 x6:Int):Option Int:=
 iter (Z0r x1 x2 x3 x5 x6) BIG x4
def S97:=SQ24 97 F97
def Q6d(x1:Str)(x2:List Token)(x3:List Str)(w142:Y3)(r11:Cmd)(again22:(Int×Int×Int×(List Cmd))→Option (Cmd×Int×Int×Int)):(Int×Int×Int×(List Cmd))→Option (Cmd×Int×Int×Int):=fun(x18,x19,x20,l21)=>
 (bif decide (x19=0)then
  (F58 [124] x1 x2 x3 x18 x19 x20).bind fun r25=>
  (bif r25 then
   (F97 x1 x2 x3 (IntKind.wrap .i64 (x18+1)) x19 x20).bind fun x30=>
   (w142 x1 x2 x3 x30 x19 x20).bind fun(r34,r35,r36,r37)=>
   (appO 104 l21 [r34]).bind fun out41=>
   again22 (r35,r36,r37,out41)
  else
   (bif decide ((l21.length:Int)=1)then
    some (r11,x18,x19,x20)
   else
    some (Cmd.mk 3 r11.at_ [] [] [] l21,x18,x19,x20)))
 else
  (bif decide ((l21.length:Int)=1)then
   some (r11,x18,x19,x20)
  else
   some (Cmd.mk 3 r11.at_ [] [] [] l21,x18,x19,x20)))
def F96(w142:Y3)(x1:Str)(x2:List Token)(x3:List Str)(x4 x5 x6:Int):Option (Cmd×Int×Int×Int):=
 (w142 x1 x2 x3 x4 x5 x6).bind fun(r11,r12,r13,r14)=>
 (bif decide (r13=0)then
  (F58 [124] x1 x2 x3 r12 r13 r14).bind fun r46=>
  (bif r46 then
   (F97 x1 x2 x3 (IntKind.wrap .i64 (r12+1)) r13 r14).bind fun x51=>
   (w142 x1 x2 x3 x51 r13 r14).bind fun(r55,r56,r57,r58)=>
   (appO 104 [r11] [r55]).bind fun out62=>
   iter (Q6d x1 x2 x3 w142 r11) BIG (r56,r57,r58,out62)
  else
   (bif decide (([r11].length:Int)=1)then
    some (r11,r12,r13,r14)
   else
    some (Cmd.mk 3 r11.at_ [] [] [] [r11],r12,r13,r14)))
 else
  (bif decide (([r11].length:Int)=1)then
   some (r11,r12,r13,r14)
  else
   some (Cmd.mk 3 r11.at_ [] [] [] [r11],r12,r13,r14)))
def SQ26(n:FuncId)(F:Str→(List Token)→(List Str)→Int→Int→Int→Option (Cmd×Int×Int×Int)):Spec:=mkS n (un6 F) (fun(a,b,c,d,e,f)=>([.ref 0 0],[V27 a b c d e f])) (fun(a,b,c,d,e,f) (g,h,i,j)=>.ret [.pv (PV.agg [.int .i64 g.kind_,.int .i64 g.at_,.str g.name_,.slice (List.map Word.pv g.words_),.slice (List.map Redir.pv g.redirs_),.slice (List.map Cmd.pv g.kids_)])] [V27 a b c h i j])
def S96(w142:Y3):=SQ26 96 (F96 w142)
def Z5c(x1:Str)(x2:List Token)(x3:List Str)(x18 x19 x20:Int)(w142:Y3)(again26:(Int×Int×Int×Int×Str×(List Word)×(List Redir)×(List Cmd))→Option (Cmd×Int×Int×Int))(x21:Int)(r11:Cmd)(x22:Str)(x23:List Word)(x24:List Redir)(x25:List Cmd):Int→Option (Cmd×Int×Int×Int):=fun kind34=>
 (F97 x1 x2 x3 (IntKind.wrap .i64 (x18+1)) x19 x20).bind fun x35=>
 (F96 w142 x1 x2 x3 x35 x19 x20).bind fun(r39,x40,x41,x42)=>
 again26 (x40,x41,x42,kind34,[],([]:List Word),([]:List Redir),[Cmd.mk x21 r11.at_ x22 x23 x24 x25,r39])
def Q6x(x1:Str)(x2:List Token)(x3:List Str)(w142:Y3)(r11:Cmd)(again26:(Int×Int×Int×Int×Str×(List Word)×(List Redir)×(List Cmd))→Option (Cmd×Int×Int×Int)):(Int×Int×Int×Int×Str×(List Word)×(List Redir)×(List Cmd))→Option (Cmd×Int×Int×Int):=fun(x18,x19,x20,x21,x22,x23,x24,x25)=>
 (bif decide (x19=0)then
  (F58 [38,38] x1 x2 x3 x18 x19 x20).bind fun r29=>
  (bif r29 then
   (F58 [124,124] x1 x2 x3 x18 x19 x20).bind fun r46=>
   (bif r46 then
    Z5c x1 x2 x3 x18 x19 x20 w142 again26 x21 r11 x22 x23 x24 x25 6
   else
    Z5c x1 x2 x3 x18 x19 x20 w142 again26 x21 r11 x22 x23 x24 x25 5)
  else
   (F58 [124,124] x1 x2 x3 x18 x19 x20).bind fun r33=>
   (bif r33 then
    (F97 x1 x2 x3 (IntKind.wrap .i64 (x18+1)) x19 x20).bind fun x40=>
    (F96 w142 x1 x2 x3 x40 x19 x20).bind fun(r44,x45,x46,x47)=>
    again26 (x45,x46,x47,(bif r33 then 6 else 5),[],([]:List Word),([]:List Redir),[Cmd.mk x21 r11.at_ x22 x23 x24 x25,r44])
   else
    some (Cmd.mk x21 r11.at_ x22 x23 x24 x25,x18,x19,x20)))
 else
  some (Cmd.mk x21 r11.at_ x22 x23 x24 x25,x18,x19,x20))
def F57(w142:Y3)(x1:Str)(x2:List Token)(x3:List Str)(x4 x5 x6:Int):Option (Cmd×Int×Int×Int):=
 (F96 w142 x1 x2 x3 x4 x5 x6).bind fun(r11,x12,x13,x14)=>
 iter (Q6x x1 x2 x3 w142 r11) BIG (x12,x13,x14,r11.kind_,r11.name_,r11.words_,r11.redirs_,r11.kids_)
def S57(w142:Y3):=SQ26 57 (F57 w142)
def F60(x1:Str)(x2:List Token)(x3:List Str)(x4 x5 x6:Int):Option (Int×Int):=
 (bif decide (x5=0)then
  (F59 x1 x2 x3 x4 47 x6).bind fun r10=>
  some (47,r10.at_)
 else
  some (x5,x6))
def S60:Spec:=mkS 60 (un6 F60) (fun(a,b,c,d,e,f)=>([.ref 0 0],[V27 a b c d e f])) (fun(a,b,c,d,e,f) (g,h)=>.ret [] [V27 a b c d g h])
def Q8z(x2:Str)(x3:List Token)(x4:List Str)(x30 x31 x32:Int)(again16:(Int×Int×Int×(List Cmd))→Option ((List Cmd)×Int×Int×Int))(out44:List Cmd):Bool→Option ((List Cmd)×Int×Int×Int):=fun ends51=>
 (F59 x2 x3 x4 x30 x31 x32).bind fun r52=>
 (bif !decide (r52.kind_=3)then
  (F58 [59] x2 x3 x4 x30 x31 x32).bind fun r56=>
  (bif (!r56&&!ends51)then
   (F60 x2 x3 x4 x30 x31 x32).bind fun(x61,x62)=>
   again16 (x30,x61,x62,out44)
  else
   again16 (x30,x31,x32,out44))
 else
  again16 (x30,x31,x32,out44))
def Q1z(x2:Str)(x3:List Token)(x4:List Str)(end1:Str)(w142:Y3)(again16:(Int×Int×Int×(List Cmd))→Option ((List Cmd)×Int×Int×Int)):(Int×Int×Int×(List Cmd))→Option ((List Cmd)×Int×Int×Int):=fun(x12,x13,x14,l15)=>
 (bif decide (x13=0)then
  (F55 x2 x3 x4 x12 x13 x14).bind fun x20=>
  (F56 end1 x2 x3 x4 x20 x13 x14).bind fun r24=>
  (bif r24 then
   some (l15,x20,x13,x14)
  else
   (F57 w142 x2 x3 x4 x20 x13 x14).bind fun(r29,x30,x31,x32)=>
   (F58 [38] x2 x3 x4 x30 x31 x32).bind fun r36=>
   (bif r36 then
    (appO 104 l15 [Cmd.mk 14 r29.at_ [] [] [] [r29]]).bind fun out41=>
    again16 (IntKind.wrap .i64 (x30+1),x31,x32,out41)
   else
    (appO 104 l15 [r29]).bind fun out44=>
    (F56 end1 x2 x3 x4 x30 x31 x32).bind fun r47=>
    (bif decide (end1=[99,97,115,101])then
     (F58 [125] x2 x3 x4 x30 x31 x32).bind fun r67=>
     Q8z x2 x3 x4 x30 x31 x32 again16 out44 r67
    else
     Q8z x2 x3 x4 x30 x31 x32 again16 out44 r47)))
 else
  some ([],x12,x13,x14))
def F24(w142:Y3)(end1 x2:Str)(x3:List Token)(x4:List Str)(x5 x6 x7:Int):Option ((List Cmd)×Int×Int×Int):=
 iter (Q1z x2 x3 x4 end1 w142) BIG (x5,x6,x7,([]:List Cmd))
def S24(w142:Y3):Spec:=mkS 24 (un7 (F24 w142)) (fun(a,b,c,d,e,f,g)=>([.ref 0 0,as_ a],[V27 b c d e f g])) (fun(a,b,c,d,e,f,g) (h,i,j,k)=>.ret [.pv (.slice (List.map Cmd.pv h))] [V27 b c d i j k])
def F173(x1:Str)(x2:List Token)(x3:List Str)(x4 x5 x6:Int):Option (Str×Int×Int×Int):=
 (F59 x1 x2 x3 x4 x5 x6).bind fun r11=>
 (Q0e (decide (r11.kind_=1)) (F171 r11.quoted_)).bind fun r15=>
 (Q0e (!(!decide (r11.kind_=1)||r15)) (F172 r11.text_)).bind fun r18=>
 (bif ((!decide (r11.kind_=1)||r15)||!r18)then
  (F60 x1 x2 x3 x4 x5 x6).bind fun(x22,x23)=>
  some (r11.text_,IntKind.wrap .i64 (x4+1),x22,x23)
 else
  some (r11.text_,IntKind.wrap .i64 (x4+1),x5,x6))
def S173:Spec:=mkS 173 (un6 F173) (fun(a,b,c,d,e,f)=>([.ref 0 0],[V27 a b c d e f])) (fun(a,b,c,d,e,f) (g,h,i,j)=>.ret [as_ g] [V27 a b c h i j])
def F174(s1 x2:Str)(x3:List Token)(x4:List Str)(x5 x6 x7:Int):Option (Int×Int×Int):=
 (F58 s1 x2 x3 x4 x5 x6 x7).bind fun r11=>
 (bif !r11 then
  (F60 x2 x3 x4 x5 x6 x7).bind fun(x16,x17)=>
  some (IntKind.wrap .i64 (x5+1),x16,x17)
 else
  some (IntKind.wrap .i64 (x5+1),x6,x7))
def S174:Spec:=mkS 174 (un7 F174) (fun(a,b,c,d,e,f,g)=>([.ref 0 0,as_ a],[V27 b c d e f g])) (fun(a,b,c,d,e,f,g) (h,i,j)=>.ret [] [V27 b c d h i j])
def F203(x1:Str)(x2:List Token)(x3:List Str)(x4 x5 x6:Int):Option Bool:=
 (F59 x1 x2 x3 x4 x5 x6).bind fun r8=>
 (bif decide (r8.kind_=1)then
  some true
 else
  (F58 [36] x1 x2 x3 x4 x5 x6).bind fun r12=>
  (bif r12 then
   some true
  else
   (F58 [36,35] x1 x2 x3 x4 x5 x6).bind fun r16=>
   (bif r16 then
    some true
   else
    (F58 [40] x1 x2 x3 x4 x5 x6).bind fun r20=>
    (bif r20 then
     some true
    else
     (F58 [96] x1 x2 x3 x4 x5 x6).bind fun r24=>
     some r24))))
def S203:=SQ25 203 F203
def F178(x1:Str)(x2:List Token)(x3:List Str)(x4 x5 x6:Int):Option Bool:=
 (F59 x1 x2 x3 x4 x5 x6).bind fun r8=>
 (Q0e (!(decide (r8.kind_=4))&&decide (r8.kind_=2)) (sidx r8.text_ 0)).bind fun c12=>
 some (decide (r8.kind_=4)||(decide (r8.kind_=2)&&(decide (c12=60)||decide (c12=62))))
def S178:=SQ25 178 F178
def F176(x1:Str)(x2:List Token)(x3:List Str)(x4 x5 x6:Int):Option Bool:=
 (F58 [33] x1 x2 x3 x4 x5 x6).bind fun r8=>
 (bif r8 then
  some true
 else
  (F58 [64] x1 x2 x3 x4 x5 x6).bind fun r12=>
  (bif r12 then
   some true
  else
   (F58 [123] x1 x2 x3 x4 x5 x6).bind fun r16=>
   (bif r16 then
    some true
   else
    (F203 x1 x2 x3 x4 x5 x6).bind fun r20=>
    (bif r20 then
     some true
    else
     (F178 x1 x2 x3 x4 x5 x6).bind fun r24=>
     some r24))))
def S176:=SQ25 176 F176
def F177(w142:Y3)(from1 to2 x3:Str)(x4:List Token)(x5:List Str)(x6 x7 x8:Int):Option (Int×Int×Str×(List Cmd)×Int×Int×Int):=
 (F59 x3 x4 x5 x6 x7 x8).bind fun r16=>
 (F174 from1 x3 x4 x5 x6 x7 x8).bind fun(x20,x21,x22)=>
 (F24 w142 to2 x3 x4 x5 x20 x21 x22).bind fun(r26,x27,x28,x29)=>
 (F174 to2 x3 x4 x5 x27 x28 x29).bind fun(x33,x34,x35)=>
 some (12,r16.at_,[],r26,x33,x34,x35)
def S177(w142:Y3):Spec:=mkS 177 (un8 (F177 w142)) (fun(a,b,c,d,e,f,g,h)=>([.ref 0 0,as_ a,as_ b],[V27 c d e f g h])) (fun(a,b,c,d,e,f,g,h) (i,j,k,l,m,n,o)=>.ret [.agg [ai i,ai j,as_ k,.nils,.nils,.pv (.slice (List.map Cmd.pv l))]] [V27 c d e m n o])
def Z1o(n1:Int)(again5:(Str×Int)→Option Str):(Str×Int)→Option Str:=fun(s3,i4)=>
 (bif decide (i4<n1)then
  (catO s3 [48]).bind fun s9=>
  again5 (s9,IntKind.wrap .i64 (i4+1))
 else
  some s3)
def F186(n1:Int):Option Str:=
 iter (Z1o n1) BIG ([],0)
def S186:Spec:=mkS 186 F186 (fun a=>([ai a],[])) (fun a b=>.ret [as_ b] [])
def Q4q(s1:Str)(again7:(Int×Int)→Option (Int×Int)):(Int×Int)→Option (Int×Int):=fun(at5,n6)=>
 (Q0e (decide (at5<(s1.length:Int))) (sidx s1 at5)).bind fun c10=>
 (bif ((decide (at5<(s1.length:Int))&&decide (48≤c10))&&decide (c10≤57))then
  (sidx s1 at5).bind fun c14=>
  again7 (IntKind.wrap .i64 (at5+1),IntKind.wrap .i64 ((IntKind.wrap .i64 (n6 * 10))+(IntKind.wrap .i64 (IntKind.wrap .u8 (c14-48)))))
 else
  some (n6,at5))
def F204(s1:Str)(at2:Int):Option (Int×Int):=
 iter (Q4q s1) BIG (at2,0)
def S204:Spec:=mkS 204 (un2 F204) (fun(a,b)=>([as_ a,ai b],[])) (fun(a,b) (c,d)=>.ret [ai c,ai d] [])
def Z1p(w175:Y2)(x1:Str)(x2:List Token)(x3:List Str)(x4 x5 x6 x28:Int):Int→Option (Redir×Int×Int×Int):=fun x29=>
 (w175 x1 x2 x3 (IntKind.wrap .i64 (x4+1)) x5 x6).bind fun(r30,r31,r32,r33)=>
 some (Redir.mk x28 x29 0 r30 false,r31,r32,r33)
def Z1q(r11:Token)(x4 x5 x6:Int)(w175:Y2)(x1:Str)(x2:List Token)(x3:List Str)(x26:Int):(Int×Int)→Option (Redir×Int×Int×Int):=fun(at27,x28)=>
 (bif decide (at27<(r11.text_.length:Int))then
  (F204 r11.text_ (IntKind.wrap .i64 (at27+1))).bind fun(r38,r39)=>
  (sidx r11.text_ r39).bind fun c42=>
  (bif decide (c42=61)then
   (sidx r11.text_ (IntKind.wrap .i64 (r39+1))).bind fun c46=>
   (bif !decide (c46=93)then
    (F204 r11.text_ (IntKind.wrap .i64 (r39+1))).bind fun(r50,r51)=>
    some (Redir.mk 5 r38 r50 (Word.mk 0 [] [] [] []) false,IntKind.wrap .i64 (x4+1),x5,x6)
   else
    some (Redir.mk 6 r38 0 (Word.mk 0 [] [] [] []) false,IntKind.wrap .i64 (x4+1),x5,x6))
  else
   Z1p w175 x1 x2 x3 x4 x5 x6 x28 r38)
 else
  Z1p w175 x1 x2 x3 x4 x5 x6 x28 x26)
def Q9n(r11:Token)(x4 x5 x6:Int)(w175:Y2)(x1:Str)(x2:List Token)(x3:List Str):(Int×Int)→Option (Redir×Int×Int×Int):=fun(x25,x26)=>
 (Q0e (decide (1<(r11.text_.length:Int))) (sidx r11.text_ 1)).bind fun c54=>
 (bif (decide (1<(r11.text_.length:Int))&&decide (c54=62))then
  Z1q r11 x4 x5 x6 w175 x1 x2 x3 x26 (2,3)
 else
  Z1q r11 x4 x5 x6 w175 x1 x2 x3 x26 (1,x25))
def F179(w175:Y2)(x1:Str)(x2:List Token)(x3:List Str)(x4 x5 x6:Int):Option (Redir×Int×Int×Int):=
 (F59 x1 x2 x3 x4 x5 x6).bind fun r11=>
 (bif decide (r11.kind_=4)then
  (lidx x3 x4).bind fun w16=>
  (F186 (w16.length:Int)).bind fun r19=>
  (F171 r11.quoted_).bind fun r22=>
  some (Redir.mk 4 0 0 (Word.mk 1 w16 r19 [] []) r22,IntKind.wrap .i64 (x4+1),x5,x6)
 else
  (sidx r11.text_ 0).bind fun c58=>
  (bif decide (c58=62)then
   Q9n r11 x4 x5 x6 w175 x1 x2 x3 (2,1)
  else
   Q9n r11 x4 x5 x6 w175 x1 x2 x3 (1,0)))
def S179(w175:Y2):Spec:=mkS 179 (un6 (F179 w175)) (fun(a,b,c,d,e,f)=>([.ref 0 0],[V27 a b c d e f])) (fun(a,b,c,d,e,f) (g,h,i,j)=>.ret [.pv (PV.agg [.int .i64 g.kind_,.int .i64 g.fd_,.int .i64 g.from_,.int .i64 g.word_.kind_,.str g.word_.text_,.str g.word_.quoted_,.slice (List.map Word.pv g.word_.words_),.slice (List.map Cmd.pv g.word_.cmd_),.bool g.raw_])] [V27 a b c h i j])
def Q3c(x1:Str)(x2:List Token)(x3:List Str)(w175:Y2)(again22:(Int×Int×Int×(List Word))→Option ((List Word)×Int×Int×Int)):(Int×Int×Int×(List Word))→Option ((List Word)×Int×Int×Int):=fun(x18,x19,x20,l21)=>
 (bif decide (x19=0)then
  (F203 x1 x2 x3 x18 x19 x20).bind fun r25=>
  (bif r25 then
   (w175 x1 x2 x3 x18 x19 x20).bind fun(r30,r31,r32,r33)=>
   (appO 88 l21 [r30]).bind fun out37=>
   again22 (r31,r32,r33,out37)
  else
   some (l21,x18,x19,x20))
 else
  some (l21,x18,x19,x20))
def F206(w175:Y2)(x1:Str)(x2:List Token)(x3:List Str)(x4 x5 x6:Int):Option ((List Word)×Int×Int×Int):=
 (w175 x1 x2 x3 x4 x5 x6).bind fun(r11,r12,r13,r14)=>
 (bif decide (r13=0)then
  (F203 x1 x2 x3 r12 r13 r14).bind fun r41=>
  (bif r41 then
   (w175 x1 x2 x3 r12 r13 r14).bind fun(r46,r47,r48,r49)=>
   (appO 88 [r11] [r46]).bind fun out53=>
   iter (Q3c x1 x2 x3 w175) BIG (r47,r48,r49,out53)
  else
   some ([r11],r12,r13,r14))
 else
  some ([r11],r12,r13,r14))
def SQ27(n:FuncId)(F:Str→(List Token)→(List Str)→Int→Int→Int→Option ((List Word)×Int×Int×Int)):Spec:=mkS n (un6 F) (fun(a,b,c,d,e,f)=>([.ref 0 0],[V27 a b c d e f])) (fun(a,b,c,d,e,f) (g,h,i,j)=>.ret [.pv (.slice (List.map Word.pv g))] [V27 a b c h i j])
def S206(w175:Y2):=SQ27 206 (F206 w175)
def Q5r(x1:Str)(x2:List Token)(x3:List Str)(w175:Y2)(again15:(Int×Int×Int×(List Word))→Option ((List Word)×Int×Int×Int)):(Int×Int×Int×(List Word))→Option ((List Word)×Int×Int×Int):=fun(x11,x12,x13,l14)=>
 (bif decide (x12=0)then
  (F97 x1 x2 x3 x11 x12 x13).bind fun x19=>
  (F58 [41] x1 x2 x3 x19 x12 x13).bind fun r23=>
  (bif r23 then
   some (l14,IntKind.wrap .i64 (x19+1),x12,x13)
  else
   (w175 x1 x2 x3 x19 x12 x13).bind fun(r28,r29,r30,r31)=>
   (appO 88 l14 [r28]).bind fun out35=>
   again15 (r29,r30,r31,out35))
 else
  some ([],x11,x12,x13))
def F205(w175:Y2)(x1:Str)(x2:List Token)(x3:List Str)(x4 x5 x6:Int):Option ((List Word)×Int×Int×Int):=
 iter (Q5r x1 x2 x3 w175) BIG (x4,x5,x6,([]:List Word))
def S205(w175:Y2):=SQ27 205 (F205 w175)
def Q3s(x4:Str)(x5:List Token)(x6:List Str)(w142:Y3)(cat2:Int)(cname3:Str)(l10:List Redir):(Int×Int×Int×Int×(List Cmd))→Option (Cmd×Int×Int×Int):=fun(x22,x23,x24,x25,l26)=>
 (F97 x4 x5 x6 x22 x23 x24).bind fun x27=>
 (w142 x4 x5 x6 x27 x23 x24).bind fun(r31,r32,r33,r34)=>
 (appO 104 l26 [r31]).bind fun out38=>
 some (Cmd.mk x25 cat2 cname3 [] l10 out38,r32,r33,r34)
def Q2f(w142:Y3)(x4:Str)(x5:List Token)(x6:List Str)(x154:Int)(l140:List Cmd)(r149:Token)(r153:List Word)(again141:(Int×Int×Int×(List Cmd))→Option (Cmd×Int×Int×Int)):(Int×Int)→Option (Cmd×Int×Int×Int):=fun(x160,x161)=>
 (F24 w142 [99,97,115,101] x4 x5 x6 x154 x160 x161).bind fun(r162,x163,x164,x165)=>
 (appO 104 l140 [Cmd.mk 18 r149.at_ [] r153 [] r162]).bind fun out169=>
 again141 (x163,x164,x165,out169)
def Q1r(x4:Str)(x5:List Token)(x6:List Str)(w175:Y2)(w142:Y3)(cat2:Int)(cname3:Str)(r120:Word)(l10:List Redir)(again141:(Int×Int×Int×(List Cmd))→Option (Cmd×Int×Int×Int)):(Int×Int×Int×(List Cmd))→Option (Cmd×Int×Int×Int):=fun(x137,x138,x139,l140)=>
 (bif decide (x138=0)then
  (F140 [99,97,115,101] x4 x5 x6 x137 x138 x139).bind fun r144=>
  (bif r144 then
   (F59 x4 x5 x6 x137 x138 x139).bind fun r149=>
   (F206 w175 x4 x5 x6 (IntKind.wrap .i64 (x137+1)) x138 x139).bind fun(r153,x154,x155,x156)=>
   (bif decide (x155=0)then
    (F59 x4 x5 x6 x154 x155 x156).bind fun r172=>
    (bif !decide (r172.kind_=3)then
     (F58 [59] x4 x5 x6 x154 x155 x156).bind fun r176=>
     (bif !r176 then
      (F56 [99,97,115,101] x4 x5 x6 x154 x155 x156).bind fun r180=>
      (bif !r180 then
       (F60 x4 x5 x6 x154 x155 x156).bind fun(x185,x186)=>
       Q2f w142 x4 x5 x6 x154 l140 r149 r153 again141 (x185,x186)
      else
       Q2f w142 x4 x5 x6 x154 l140 r149 r153 again141 (x155,x156))
     else
      Q2f w142 x4 x5 x6 x154 l140 r149 r153 again141 (x155,x156))
    else
     Q2f w142 x4 x5 x6 x154 l140 r149 r153 again141 (x155,x156))
   else
    Q2f w142 x4 x5 x6 x154 l140 r149 r153 again141 (x155,x156))
  else
   (F174 [125] x4 x5 x6 x137 x138 x139).bind fun(x190,x191,x192)=>
   some (Cmd.mk 17 cat2 cname3 [r120] l10 l140,x190,x191,x192))
 else
  (F174 [125] x4 x5 x6 x137 x138 x139).bind fun(x145,x146,x147)=>
  some (Cmd.mk 17 cat2 cname3 [r120] l10 l140,x145,x146,x147))
def F180(w142:Y3)(w175:Y2)(ckind1 cat2:Int)(cname3 x4:Str)(x5:List Token)(x6:List Str)(x7 x8 x9:Int)(l10:List Redir):Option (Cmd×Int×Int×Int):=
 (F59 x4 x5 x6 x7 x8 x9).bind fun r15=>
 (bif (bif decide (r15.text_=[105,102])then decide (r15.text_=[105,102])else decide (r15.text_=[119,104,105,108,101]))then
  (bif decide (r15.text_=[105,102])then
   (F140 [110,111,116] x4 x5 x6 (IntKind.wrap .i64 (x7+1)) x8 x9).bind fun r41=>
   (bif r41 then
    Q3s x4 x5 x6 w142 cat2 cname3 l10 (IntKind.wrap .i64 ((IntKind.wrap .i64 (x7+1))+1),x8,x9,9,([]:List Cmd))
   else
    (F177 w142 [40] [41] x4 x5 x6 (IntKind.wrap .i64 (x7+1)) x8 x9).bind fun(kind46,at47,name48,kids49,x50,x51,x52)=>
    (appO 104 ([]:List Cmd) [Cmd.mk kind46 at47 name48 [] [] kids49]).bind fun out56=>
    Q3s x4 x5 x6 w142 cat2 cname3 l10 (x50,x51,x52,(bif decide (r15.text_=[119,104,105,108,101])then 11 else 8),out56))
  else
   (F177 w142 [40] [41] x4 x5 x6 (IntKind.wrap .i64 (x7+1)) x8 x9).bind fun(kind42,at43,name44,kids45,x46,x47,x48)=>
   (appO 104 ([]:List Cmd) [Cmd.mk kind42 at43 name44 [] [] kids45]).bind fun out52=>
   Q3s x4 x5 x6 w142 cat2 cname3 l10 (x46,x47,x48,(bif decide (r15.text_=[119,104,105,108,101])then 11 else 8),out52))
 else
  (bif decide (r15.text_=[102,111,114])then
   (F174 [40] x4 x5 x6 (IntKind.wrap .i64 (x7+1)) x8 x9).bind fun(x60,x61,x62)=>
   (F173 x4 x5 x6 x60 x61 x62).bind fun(r66,x67,x68,x69)=>
   (F140 [105,110] x4 x5 x6 x67 x68 x69).bind fun r73=>
   (bif r73 then
    (F205 w175 x4 x5 x6 (IntKind.wrap .i64 (x67+1)) x68 x69).bind fun(r78,x79,x80,x81)=>
    (F97 x4 x5 x6 x79 x80 x81).bind fun x85=>
    (w142 x4 x5 x6 x85 x80 x81).bind fun(r89,r90,r91,r92)=>
    (appO 104 ([]:List Cmd) [r89]).bind fun out96=>
    some (Cmd.mk 10 cat2 r66 r78 l10 out96,r90,r91,r92)
   else
    (F174 [41] x4 x5 x6 x67 x68 x69).bind fun(x99,x100,x101)=>
    (F97 x4 x5 x6 x99 x100 x101).bind fun x105=>
    (w142 x4 x5 x6 x105 x100 x101).bind fun(r109,r110,r111,r112)=>
    (appO 104 ([]:List Cmd) [r109]).bind fun out116=>
    some (Cmd.mk 10 cat2 r66 [Word.mk 2 [42] [] [] []] l10 out116,r110,r111,r112))
  else
   (bif decide (r15.text_=[115,119,105,116,99,104])then
    (w175 x4 x5 x6 (IntKind.wrap .i64 (x7+1)) x8 x9).bind fun(r120,r121,r122,r123)=>
    (F174 [123] x4 x5 x6 r121 r122 r123).bind fun(x127,x128,x129)=>
    (F55 x4 x5 x6 x127 x128 x129).bind fun x133=>
    iter (Q1r x4 x5 x6 w175 w142 cat2 cname3 r120 l10) BIG (x133,x128,x129,([]:List Cmd))
   else
    (bif decide (r15.text_=[102,110])then
     (F173 x4 x5 x6 (IntKind.wrap .i64 (x7+1)) x8 x9).bind fun(r198,x199,x200,x201)=>
     (F58 [123] x4 x5 x6 x199 x200 x201).bind fun r205=>
     (bif r205 then
      (F177 w142 [123] [125] x4 x5 x6 x199 x200 x201).bind fun(kind210,at211,name212,kids213,x214,x215,x216)=>
      (bif decide ((kids213.length:Int)=0)then
       some (Cmd.mk 15 cat2 r198 [] l10 [Cmd.mk 12 0 [] [] [] []],x214,x215,x216)
      else
       some (Cmd.mk 15 cat2 r198 [] l10 kids213,x214,x215,x216))
     else
      some (Cmd.mk 15 cat2 r198 [] l10 ([]:List Cmd),x199,x200,x201))
    else
     (F206 w175 x4 x5 x6 (IntKind.wrap .i64 (x7+1)) x8 x9).bind fun(r221,x222,x223,x224)=>
     some (Cmd.mk 16 cat2 cname3 r221 l10 ([]:List Cmd),x222,x223,x224)))))
def S180(w142:Y3)(w175:Y2):Spec:=mkS 180 (un10 (F180 w142 w175)) (fun(a,b,c,d,e,f,g,h,i,j)=>([.ref 0 0,.agg [ai a,ai b,as_ c,.nils,.vec 1 (List.length j),.nils]],[V27 d e f g h i,rRe j])) (fun(a,b,c,d,e,f,g,h,i,j) (k,l,m,n)=>.ret [.pv (PV.agg [.int .i64 k.kind_,.int .i64 k.at_,.str k.name_,.slice (List.map Word.pv k.words_),.slice (List.map Redir.pv k.redirs_),.slice (List.map Cmd.pv k.kids_)])] [V27 d e f l m n,rRe j])
def F187(s1:Str):Option Bool:=
 some ((((((decide (s1=[105,102])||decide (s1=[119,104,105,108,101]))||decide (s1=[102,111,114]))||decide (s1=[115,119,105,116,99,104]))||decide (s1=[99,97,115,101]))||decide (s1=[102,110]))||decide (s1=[126]))
def S187:=SQ3 187 F187
def Q1k(x4:Str)(x5:List Token)(x6:List Str)(w175:Y2)(cat2:Int)(cname3:Str)(again21:(Int×Int×Int×(List Redir)×(List Word))→Option (Cmd×Int×Int×Int×(List Redir))):(Int×Int×Int×(List Redir)×(List Word))→Option (Cmd×Int×Int×Int×(List Redir)):=fun(x16,x17,x18,l19,l20)=>
 (bif decide (x17=0)then
  (F178 x4 x5 x6 x16 x17 x18).bind fun r25=>
  (bif r25 then
   (F179 w175 x4 x5 x6 x16 x17 x18).bind fun(r30,x31,x32,x33)=>
   (appO 120 l19 [r30]).bind fun out37=>
   again21 (x31,x32,x33,out37,l20)
  else
   (bif decide ((l20.length:Int)=0)then
    (F59 x4 x5 x6 x16 x17 x18).bind fun r40=>
    (Q0e (decide (r40.kind_=1)) (F187 r40.text_)).bind fun r45=>
    (Q0e (decide (r40.kind_=1)&&r45) (F171 r40.quoted_)).bind fun r49=>
    (bif ((decide (r40.kind_=1)&&r45)&&!r49)then
     (F60 x4 x5 x6 (bif decide ((l19.length:Int)=0)then IntKind.wrap .i64 (x16+1)else x16) x17 x18).bind fun(x54,x55)=>
     again21 ((bif decide ((l19.length:Int)=0)then IntKind.wrap .i64 (x16+1)else x16),x54,x55,l19,l20)
    else
     (F203 x4 x5 x6 x16 x17 x18).bind fun r59=>
     (bif r59 then
      (w175 x4 x5 x6 x16 x17 x18).bind fun(r64,r65,r66,r67)=>
      (appO 88 l20 [r64]).bind fun out71=>
      again21 (r65,r66,r67,l19,out71)
     else
      (bif decide (IntKind.wrap .i64 ((l20.length:Int)+(l19.length:Int))=0)then
       (F60 x4 x5 x6 x16 x17 x18).bind fun(x75,x76)=>
       again21 (x16,x75,x76,l19,l20)
      else
       some (Cmd.mk 1 cat2 cname3 l20 l19 [],x16,x17,x18,l19))))
   else
    (F203 x4 x5 x6 x16 x17 x18).bind fun r41=>
    (bif r41 then
     (w175 x4 x5 x6 x16 x17 x18).bind fun(r46,r47,r48,r49)=>
     (appO 88 l20 [r46]).bind fun out53=>
     again21 (r47,r48,r49,l19,out53)
    else
     (bif decide (IntKind.wrap .i64 ((l20.length:Int)+(l19.length:Int))=0)then
      (F60 x4 x5 x6 x16 x17 x18).bind fun(x57,x58)=>
      again21 (x16,x57,x58,l19,l20)
     else
      some (Cmd.mk 1 cat2 cname3 l20 l19 [],x16,x17,x18,l19)))))
 else
  some (Cmd.mk 1 cat2 cname3 l20 l19 [],x16,x17,x18,l19))
def F181(w175:Y2)(ckind1 cat2:Int)(cname3 x4:Str)(x5:List Token)(x6:List Str)(x7 x8 x9:Int)(l10:List Redir):Option (Cmd×Int×Int×Int×(List Redir)):=
 iter (Q1k x4 x5 x6 w175 cat2 cname3) BIG (x7,x8,x9,l10,([]:List Word))
def S181(w175:Y2):Spec:=mkS 181 (un10 (F181 w175)) (fun(a,b,c,d,e,f,g,h,i,j)=>([.ref 0 0,.agg [ai a,ai b,as_ c,.nils,.vec 1 (List.length j),.nils]],[V27 d e f g h i,rRe j])) (fun(a,b,c,d,e,f,g,h,i,j) (k,l,m,n,o)=>.ret [.pv (PV.agg [.int .i64 k.kind_,.int .i64 k.at_,.str k.name_,.slice (List.map Word.pv k.words_),.slice (List.map Redir.pv k.redirs_),.slice (List.map Cmd.pv k.kids_)])] [V27 d e f l m n,rRe o])
def Z5m(w142:Y3)(x1:Str)(x2:List Token)(x3:List Str)(x4 x5 x6:Int)(r11:Token):Int→Option (Cmd×Int×Int×Int):=fun x58=>
 (w142 x1 x2 x3 (IntKind.wrap .i64 (x4+1)) x5 x6).bind fun(r59,r60,r61,r62)=>
 some (Cmd.mk x58 r11.at_ [] [] ([]:List Redir) [r59],r60,r61,r62)
def Q4t(x1:Str)(x2:List Token)(x3:List Str)(w175:Y2)(kind76 at77:Int)(name78:Str)(kids79:List Cmd)(again90:(Int×Int×Int×(List Redir))→Option (Cmd×Int×Int×Int)):(Int×Int×Int×(List Redir))→Option (Cmd×Int×Int×Int):=fun(x86,x87,x88,l89)=>
 (bif decide (x87=0)then
  (F178 x1 x2 x3 x86 x87 x88).bind fun r93=>
  (bif r93 then
   (F179 w175 x1 x2 x3 x86 x87 x88).bind fun(r98,x99,x100,x101)=>
   (appO 120 l89 [r98]).bind fun out105=>
   again90 (x99,x100,x101,out105)
  else
   some (Cmd.mk kind76 at77 name78 [] l89 kids79,x86,x87,x88))
 else
  some (Cmd.mk kind76 at77 name78 [] l89 kids79,x86,x87,x88))
def F142(w142:Y3)(w175:Y2)(x1:Str)(x2:List Token)(x3:List Str)(x4 x5 x6:Int):Option (Cmd×Int×Int×Int):=
 (F59 x1 x2 x3 x4 x5 x6).bind fun r11=>
 (bif !decide (x5=0)then
  some (Cmd.mk 0 r11.at_ [] [] ([]:List Redir) [],x4,x5,x6)
 else
  (F141 x1 x2 x3 x4 x5 x6).bind fun r16=>
  (bif r16 then
   (F173 x1 x2 x3 x4 x5 x6).bind fun(r21,x22,x23,x24)=>
   (F174 [61] x1 x2 x3 x22 x23 x24).bind fun(x28,x29,x30)=>
   (w175 x1 x2 x3 x28 x29 x30).bind fun(r34,r35,r36,r37)=>
   (bif decide (r36=0)then
    (F176 x1 x2 x3 r35 r36 r37).bind fun r41=>
    (bif r41 then
     (w142 x1 x2 x3 r35 r36 r37).bind fun(r46,r47,r48,r49)=>
     some (Cmd.mk 2 r11.at_ r21 [r34] ([]:List Redir) [r46],r47,r48,r49)
    else
     some (Cmd.mk 2 r11.at_ r21 [r34] ([]:List Redir) [],r35,r36,r37))
   else
    some (Cmd.mk 2 r11.at_ r21 [r34] ([]:List Redir) [],r35,r36,r37))
  else
   (F58 [33] x1 x2 x3 x4 x5 x6).bind fun r53=>
   (bif r53 then
    (F58 [64] x1 x2 x3 x4 x5 x6).bind fun r66=>
    (bif r66 then
     Z5m w142 x1 x2 x3 x4 x5 x6 r11 13
    else
     Z5m w142 x1 x2 x3 x4 x5 x6 r11 7)
   else
    (F58 [64] x1 x2 x3 x4 x5 x6).bind fun r57=>
    (bif r57 then
     (w142 x1 x2 x3 (IntKind.wrap .i64 (x4+1)) x5 x6).bind fun(r64,r65,r66,r67)=>
     some (Cmd.mk (bif r57 then 13 else 7) r11.at_ [] [] ([]:List Redir) [r64],r65,r66,r67)
    else
     (F58 [123] x1 x2 x3 x4 x5 x6).bind fun r71=>
     (bif r71 then
      (F177 w142 [123] [125] x1 x2 x3 x4 x5 x6).bind fun(kind76,at77,name78,kids79,x80,x81,x82)=>
      iter (Q4t x1 x2 x3 w175 kind76 at77 name78 kids79) BIG (x80,x81,x82,([]:List Redir))
     else
      (F140 [105,102] x1 x2 x3 x4 x5 x6).bind fun r109=>
      (bif r109 then
       (F180 w142 w175 0 r11.at_ [] x1 x2 x3 x4 x5 x6 ([]:List Redir)).bind fun(r114,x115,x116,x117)=>
       some (r114,x115,x116,x117)
      else
       (F140 [119,104,105,108,101] x1 x2 x3 x4 x5 x6).bind fun r113=>
       (bif r113 then
        (F180 w142 w175 0 r11.at_ [] x1 x2 x3 x4 x5 x6 ([]:List Redir)).bind fun(r118,x119,x120,x121)=>
        some (r118,x119,x120,x121)
       else
        (F140 [102,111,114] x1 x2 x3 x4 x5 x6).bind fun r117=>
        (bif r117 then
         (F180 w142 w175 0 r11.at_ [] x1 x2 x3 x4 x5 x6 ([]:List Redir)).bind fun(r122,x123,x124,x125)=>
         some (r122,x123,x124,x125)
        else
         (F140 [115,119,105,116,99,104] x1 x2 x3 x4 x5 x6).bind fun r121=>
         (bif r121 then
          (F180 w142 w175 0 r11.at_ [] x1 x2 x3 x4 x5 x6 ([]:List Redir)).bind fun(r126,x127,x128,x129)=>
          some (r126,x127,x128,x129)
         else
          (F140 [102,110] x1 x2 x3 x4 x5 x6).bind fun r125=>
          (bif r125 then
           (F180 w142 w175 0 r11.at_ [] x1 x2 x3 x4 x5 x6 ([]:List Redir)).bind fun(r130,x131,x132,x133)=>
           some (r130,x131,x132,x133)
          else
           (F140 [126] x1 x2 x3 x4 x5 x6).bind fun r129=>
           (bif r129 then
            (F180 w142 w175 0 r11.at_ [] x1 x2 x3 x4 x5 x6 ([]:List Redir)).bind fun(r134,x135,x136,x137)=>
            some (r134,x135,x136,x137)
           else
            (F181 w175 0 r11.at_ [] x1 x2 x3 x4 x5 x6 ([]:List Redir)).bind fun(r141,x142,x143,x144,o145)=>
            some (r141,x142,x143,x144))))))))))))
def S142:=SQ26 142
def Q4r(w175:Y2)(x1:Str)(x2:List Token)(x3:List Str)(x54:Int)(r38:Str):(Int×Int)→Option (Word×Int×Int×Int):=fun(x58,x59)=>
 (F205 w175 x1 x2 x3 x54 x58 x59).bind fun(r60,x61,x62,x63)=>
 some (Word.mk 7 r38 [] r60 [],x61,x62,x63)
def F202(w142:Y3)(w175:Y2)(x1:Str)(x2:List Token)(x3:List Str)(x4 x5 x6:Int):Option (Word×Int×Int×Int):=
 (F59 x1 x2 x3 x4 x5 x6).bind fun r11=>
 (bif decide (r11.kind_=1)then
  some (Word.mk 1 r11.text_ r11.quoted_ [] [],IntKind.wrap .i64 (x4+1),x5,x6)
 else
  (F58 [36,35] x1 x2 x3 x4 x5 x6).bind fun r16=>
  (bif r16 then
   (F173 x1 x2 x3 (IntKind.wrap .i64 (x4+1)) x5 x6).bind fun(r21,x22,x23,x24)=>
   some (Word.mk 3 r21 [] [] [],x22,x23,x24)
  else
   (F58 [36] x1 x2 x3 x4 x5 x6).bind fun r28=>
   (bif r28 then
    (F59 x1 x2 x3 (IntKind.wrap .i64 (x4+1)) x5 x6).bind fun r33=>
    (F173 x1 x2 x3 (IntKind.wrap .i64 (x4+1)) x5 x6).bind fun(r38,x39,x40,x41)=>
    (bif decide (x40=0)then
     (F58 [40] x1 x2 x3 x39 x40 x41).bind fun r45=>
     (bif r45 then
      (F59 x1 x2 x3 x39 x40 x41).bind fun r49=>
      (bif decide (r49.at_=IntKind.wrap .i64 (r33.at_+(r33.text_.length:Int)))then
       (F97 x1 x2 x3 (IntKind.wrap .i64 (x39+1)) x40 x41).bind fun x54=>
       (F58 [41] x1 x2 x3 x54 x40 x41).bind fun r67=>
       (bif r67 then
        (F60 x1 x2 x3 x54 x40 x41).bind fun(x72,x73)=>
        Q4r w175 x1 x2 x3 x54 r38 (x72,x73)
       else
        Q4r w175 x1 x2 x3 x54 r38 (x40,x41))
      else
       some (Word.mk 2 r38 [] [] [],x39,x40,x41))
     else
      some (Word.mk 2 r38 [] [] [],x39,x40,x41))
    else
     some (Word.mk 2 r38 [] [] [],x39,x40,x41))
   else
    (F58 [40] x1 x2 x3 x4 x5 x6).bind fun r77=>
    (bif r77 then
     (F205 w175 x1 x2 x3 (IntKind.wrap .i64 (x4+1)) x5 x6).bind fun(r82,x83,x84,x85)=>
     some (Word.mk 5 [] [] r82 [],x83,x84,x85)
    else
     (F58 [96] x1 x2 x3 x4 x5 x6).bind fun r89=>
     (bif r89 then
      (F177 w142 [123] [125] x1 x2 x3 (IntKind.wrap .i64 (x4+1)) x5 x6).bind fun(kind94,at95,name96,kids97,x98,x99,x100)=>
      some (Word.mk 6 [] [] [] kids97,x98,x99,x100)
     else
      (F60 x1 x2 x3 x4 x5 x6).bind fun(x104,x105)=>
      some (Word.mk 0 [] [] [] [],x4,x104,x105))))))
def SQ28(n:FuncId)(F:Str→(List Token)→(List Str)→Int→Int→Int→Option (Word×Int×Int×Int)):Spec:=mkS n (un6 F) (fun(a,b,c,d,e,f)=>([.ref 0 0],[V27 a b c d e f])) (fun(a,b,c,d,e,f) (g,h,i,j)=>.ret [.pv (PV.agg [.int .i64 g.kind_,.str g.text_,.str g.quoted_,.slice (List.map Word.pv g.words_),.slice (List.map Cmd.pv g.cmd_)])] [V27 a b c h i j])
def S202(w142:Y3)(w175:Y2):=SQ28 202 (F202 w142 w175)
def Q4s(x1:Str)(x2:List Token)(x3:List Str)(w142:Y3)(w175:Y2)(again22:(Int×Int×Int×(List Word))→Option (Word×Int×Int×Int)):(Int×Int×Int×(List Word))→Option (Word×Int×Int×Int):=fun(x18,x19,x20,l21)=>
 (bif decide (x19=0)then
  (F58 [94] x1 x2 x3 x18 x19 x20).bind fun r25=>
  (bif r25 then
   (F202 w142 w175 x1 x2 x3 (IntKind.wrap .i64 (x18+1)) x19 x20).bind fun(r30,x31,x32,x33)=>
   (appO 88 l21 [r30]).bind fun out37=>
   again22 (x31,x32,x33,out37)
  else
   (bif decide ((l21.length:Int)=1)then
    (lidx l21 0).bind fun u41=>
    some (u41,x18,x19,x20)
   else
    some (Word.mk 4 [] [] l21 [],x18,x19,x20)))
 else
  (bif decide ((l21.length:Int)=1)then
   (lidx l21 0).bind fun u27=>
   some (u27,x18,x19,x20)
  else
   some (Word.mk 4 [] [] l21 [],x18,x19,x20)))
def F175(w142:Y3)(w175:Y2)(x1:Str)(x2:List Token)(x3:List Str)(x4 x5 x6:Int):Option (Word×Int×Int×Int):=
 (F202 w142 w175 x1 x2 x3 x4 x5 x6).bind fun(r11,x12,x13,x14)=>
 (bif decide (x13=0)then
  (F58 [94] x1 x2 x3 x12 x13 x14).bind fun r45=>
  (bif r45 then
   (F202 w142 w175 x1 x2 x3 (IntKind.wrap .i64 (x12+1)) x13 x14).bind fun(r50,x51,x52,x53)=>
   (appO 88 [r11] [r50]).bind fun out57=>
   iter (Q4s x1 x2 x3 w142 w175) BIG (x51,x52,x53,out57)
  else
   (bif decide (([r11].length:Int)=1)then
    some (r11,x12,x13,x14)
   else
    some (Word.mk 4 [] [] [r11] [],x12,x13,x14)))
 else
  (bif decide (([r11].length:Int)=1)then
   some (r11,x12,x13,x14)
  else
   some (Word.mk 4 [] [] [r11] [],x12,x13,x14)))
def S175:=SQ28 175
mutual
def K142:Nat→Str→(List Token)→(List Str)→Int→Int→Int→Option (Cmd×Int×Int×Int)
 | 0=>fun _ _ _ _ _ _=>none
 | n+1=>F142 (K142 n) (K175 n)
def K175:Nat→Str→(List Token)→(List Str)→Int→Int→Int→Option (Word×Int×Int×Int)
 | 0=>fun _ _ _ _ _ _=>none
 | n+1=>F175 (K142 n) (K175 n)
end
def F34(d1:Redir):Option (List Word):=
 (bif (decide (d1.kind_=5)||decide (d1.kind_=6))then
  some []
 else
  some [d1.word_])
def S34:Spec:=mkS 34 F34 (fun a=>([.pv (PV.agg [.int .i64 a.kind_,.int .i64 a.fd_,.int .i64 a.from_,.int .i64 a.word_.kind_,.str a.word_.text_,.str a.word_.quoted_,.slice (List.map Word.pv a.word_.words_),.slice (List.map Cmd.pv a.word_.cmd_),.bool a.raw_])],[])) (fun a b=>.ret [.pv (.slice (List.map Word.pv b))] [])
def J5o(u9:Cmd)(w33:Y9)(again5:(Int×Int)→Option Int)(i4:Int)(again20:(Int×Int)→Option Int):(Int×Int)→Option Int:=fun(n18,k19)=>
 (bif decide (k19<(u9.redirs_.length:Int))then
  (lidx u9.redirs_ k19).bind fun u24=>
  (F34 u24).bind fun r27=>
  (w33 r27).bind fun r30=>
  again20 (IntKind.wrap .i64 (n18+r30),IntKind.wrap .i64 (k19+1))
 else
  again5 (n18,IntKind.wrap .i64 (i4+1)))
def Z7g(l1:List Cmd)(w33:Y9)(w16:Y7)(again5:(Int×Int)→Option Int):(Int×Int)→Option Int:=fun(n3,i4)=>
 (bif decide (i4<(l1.length:Int))then
  (lidx l1 i4).bind fun u9=>
  (w33 u9.words_).bind fun r12=>
  (w16 u9.kids_).bind fun r15=>
  iter (J5o u9 w33 again5 i4) BIG (IntKind.wrap .i64 ((IntKind.wrap .i64 ((IntKind.wrap .i64 (n3+r12))+r15))+(u9.redirs_.length:Int)),0)
 else
  some n3)
def F16(w16:Y7)(w33:Y9)(l1:List Cmd):Option Int:=
 iter (Z7g l1 w33 w16) BIG ((l1.length:Int),0)
def S16:=SQ13 16
def X2f(l1:List Word)(w33:Y9)(w16:Y7)(again5:(Int×Int)→Option Int):(Int×Int)→Option Int:=fun(n3,i4)=>
 (bif decide (i4<(l1.length:Int))then
  (lidx l1 i4).bind fun u9=>
  (w33 u9.words_).bind fun r12=>
  (w16 u9.cmd_).bind fun r15=>
  again5 (IntKind.wrap .i64 ((IntKind.wrap .i64 (n3+r12))+r15),IntKind.wrap .i64 (i4+1))
 else
  some n3)
def F33(w16:Y7)(w33:Y9)(l1:List Word):Option Int:=
 iter (X2f l1 w33 w16) BIG ((l1.length:Int),0)
def SQ29(n:FuncId)(F:(List Word)→Option (Int)):Spec:=mkS n F (fun a=>([.pv (.slice (List.map Word.pv a))],[])) (fun a b=>.ret [ai b] [])
def S33:=SQ29 33
mutual
def K16:Nat→(List Cmd)→Option (Int)
 | 0=>fun _=>none
 | n+1=>F16 (K16 n) (K33 n)
def K33:Nat→(List Word)→Option (Int)
 | 0=>fun _=>none
 | n+1=>F33 (K16 n) (K33 n)
end
def J5i(u9:Cmd)(w61:Y9)(again5:(Int×Int)→Option Int)(n3 i4:Int)(again20:(Int×Int)→Option Int):(Int×Int)→Option Int:=fun(d18,k19)=>
 (bif decide (k19<(u9.redirs_.length:Int))then
  (lidx u9.redirs_ k19).bind fun u24=>
  (F34 u24).bind fun r27=>
  (w61 r27).bind fun r30=>
  again20 (imax d18 r30,IntKind.wrap .i64 (k19+1))
 else
  again5 (imax n3 (IntKind.wrap .i64 (1+d18)),IntKind.wrap .i64 (i4+1)))
def Z7b(l1:List Cmd)(w61:Y9)(w25:Y7)(again5:(Int×Int)→Option Int):(Int×Int)→Option Int:=fun(n3,i4)=>
 (bif decide (i4<(l1.length:Int))then
  (lidx l1 i4).bind fun u9=>
  (w61 u9.words_).bind fun r12=>
  (w25 u9.kids_).bind fun r15=>
  iter (J5i u9 w61 again5 n3 i4) BIG (imax r12 r15,0)
 else
  some n3)
def F25(w25:Y7)(w61:Y9)(l1:List Cmd):Option Int:=
 iter (Z7b l1 w61 w25) BIG (0,0)
def S25:=SQ13 25
def X2c(l1:List Word)(w61:Y9)(w25:Y7)(again5:(Int×Int)→Option Int):(Int×Int)→Option Int:=fun(n3,i4)=>
 (bif decide (i4<(l1.length:Int))then
  (lidx l1 i4).bind fun u9=>
  (w61 u9.words_).bind fun r12=>
  (w25 u9.cmd_).bind fun r15=>
  again5 (imax n3 (IntKind.wrap .i64 (1+(imax r12 r15))),IntKind.wrap .i64 (i4+1))
 else
  some n3)
def F61(w25:Y7)(w61:Y9)(l1:List Word):Option Int:=
 iter (X2c l1 w61 w25) BIG (0,0)
def S61:=SQ29 61
mutual
def K25:Nat→(List Cmd)→Option (Int)
 | 0=>fun _=>none
 | n+1=>F25 (K25 n) (K61 n)
def K61:Nat→(List Word)→Option (Int)
 | 0=>fun _=>none
 | n+1=>F61 (K25 n) (K61 n)
end
def F9(s1:Str):Option ((List Cmd)×Int×Int):=
 (F22 s1).bind fun(r5,r6,r7)=>
 (bif !decide (r7=0)then
  some ([],r6,r7)
 else
  (F23 s1 r5).bind fun r11=>
  (F24 (K142 BIG) [] s1 r5 r11 0 0 0).bind fun(r14,x15,x16,x17)=>
  (bif !decide (x16=0)then
   some ([],x17,x16)
  else
   (K16 BIG r14).bind fun r22=>
   (Q0e (!(decide (1024<r22))) (K25 BIG r14)).bind fun r25=>
   (bif (decide (1024<r22)||decide (32<r25))then
    some ([],0,4)
   else
    some (r14,0,0))))
def S9:=SQ17 9 F9
def Z7k(u10 u13:Cmd)(w26:Y4)(again6:(Int)→Option Bool)(i5:Int)(again24:Int→Option Bool):Int→Option Bool:=fun k23=>
 (bif decide (k23<(u10.redirs_.length:Int))then
  (lidx u10.redirs_ k23).bind fun u28=>
  (lidx u13.redirs_ k23).bind fun u31=>
  (Q0e (!(((!decide (u28.kind_=u31.kind_)||!decide (u28.fd_=u31.fd_))||!decide (u28.from_=u31.from_))||!(u28.raw_==u31.raw_))) (w26 [u28.word_] [u31.word_])).bind fun r34=>
  (bif ((((!decide (u28.kind_=u31.kind_)||!decide (u28.fd_=u31.fd_))||!decide (u28.from_=u31.from_))||!(u28.raw_==u31.raw_))||!r34)then
   some false
  else
   again24 (IntKind.wrap .i64 (k23+1)))
 else
  again6 (IntKind.wrap .i64 (i5+1)))
def Z2p(a1 b2:List Cmd)(w26:Y4)(w10:Y6)(again6:Int→Option Bool):Int→Option Bool:=fun i5=>
 (bif decide (i5<(a1.length:Int))then
  (lidx a1 i5).bind fun u10=>
  (lidx b2 i5).bind fun u13=>
  (Q0e (!(!decide (u10.kind_=u13.kind_)||!decide (u10.name_=u13.name_))) (w26 u10.words_ u13.words_)).bind fun r16=>
  (Q0e (!((!decide (u10.kind_=u13.kind_)||!decide (u10.name_=u13.name_))||!r16)) (w10 u10.kids_ u13.kids_)).bind fun r19=>
  (bif ((((!decide (u10.kind_=u13.kind_)||!decide (u10.name_=u13.name_))||!r16)||!r19)||!decide ((u10.redirs_.length:Int)=(u13.redirs_.length:Int)))then
   some false
  else
   iter (Z7k u10 u13 w26 again6 i5) BIG 0)
 else
  some true)
def F10(w10:Y6)(w26:Y4)(a1 b2:List Cmd):Option Bool:=
 (bif !decide ((a1.length:Int)=(b2.length:Int))then
  some false
 else
  iter (Z2p a1 b2 w26 w10) BIG 0)
def SQ30(n:FuncId)(F:(List Cmd)→(List Cmd)→Option (Bool)):Spec:=mkS n (un2 F) (fun(a,b)=>([.pv (.slice (List.map Cmd.pv a)),.pv (.slice (List.map Cmd.pv b))],[])) (fun(a,b) c=>.ret [ab c] [])
def S10:=SQ30 10
def Z2n(a1 b2:List Word)(w26:Y4)(w10:Y6)(again6:Int→Option Bool):Int→Option Bool:=fun i5=>
 (bif decide (i5<(a1.length:Int))then
  (lidx a1 i5).bind fun u10=>
  (lidx b2 i5).bind fun u13=>
  (Q0e (!((!decide (u10.kind_=u13.kind_)||!decide (u10.text_=u13.text_))||!decide (u10.quoted_=u13.quoted_))) (w26 u10.words_ u13.words_)).bind fun r16=>
  (Q0e (!(((!decide (u10.kind_=u13.kind_)||!decide (u10.text_=u13.text_))||!decide (u10.quoted_=u13.quoted_))||!r16)) (w10 u10.cmd_ u13.cmd_)).bind fun r19=>
  (bif ((((!decide (u10.kind_=u13.kind_)||!decide (u10.text_=u13.text_))||!decide (u10.quoted_=u13.quoted_))||!r16)||!r19)then
   some false
  else
   again6 (IntKind.wrap .i64 (i5+1)))
 else
  some true)
def F26(w10:Y6)(w26:Y4)(a1 b2:List Word):Option Bool:=
 (bif !decide ((a1.length:Int)=(b2.length:Int))then
  some false
 else
  iter (Z2n a1 b2 w26 w10) BIG 0)
def SQ31(n:FuncId)(F:(List Word)→(List Word)→Option (Bool)):Spec:=mkS n (un2 F) (fun(a,b)=>([.pv (.slice (List.map Word.pv a)),.pv (.slice (List.map Word.pv b))],[])) (fun(a,b) c=>.ret [ab c] [])
def S26:=SQ31 26
mutual
def K10:Nat→(List Cmd)→(List Cmd)→Option (Bool)
 | 0=>fun _ _=>none
 | n+1=>F10 (K10 n) (K26 n)
def K26:Nat→(List Word)→(List Word)→Option (Bool)
 | 0=>fun _ _=>none
 | n+1=>F26 (K10 n) (K26 n)
end
def Z7j(u9 u12:Cmd)(w27:Y4)(again5:(Int)→Option Bool)(i4:Int)(again23:Int→Option Bool):Int→Option Bool:=fun i22=>
 (bif decide (i22<(u9.redirs_.length:Int))then
  (lidx u9.redirs_ i22).bind fun u27=>
  (lidx u12.redirs_ i22).bind fun u30=>
  (w27 [u27.word_] [u30.word_]).bind fun r33=>
  (bif !r33 then
   some false
  else
   again23 (IntKind.wrap .i64 (i22+1)))
 else
  again5 (IntKind.wrap .i64 (i4+1)))
def Z2o(a1 b2:List Cmd)(w11:Y6)(w27:Y4)(again5:Int→Option Bool):Int→Option Bool:=fun i4=>
 (bif decide (i4<(a1.length:Int))then
  (lidx a1 i4).bind fun u9=>
  (lidx b2 i4).bind fun u12=>
  (Q0e (decide (u9.at_=u12.at_)) (w11 u9.kids_ u12.kids_)).bind fun r15=>
  (Q0e (!(!decide (u9.at_=u12.at_)||!r15)) (w27 u9.words_ u12.words_)).bind fun r18=>
  (bif ((!decide (u9.at_=u12.at_)||!r15)||!r18)then
   some false
  else
   iter (Z7j u9 u12 w27 again5 i4) BIG 0)
 else
  some true)
def F11(w11:Y6)(w27:Y4)(a1 b2:List Cmd):Option Bool:=
 iter (Z2o a1 b2 w11 w27) BIG 0
def S11:=SQ30 11
def Z2m(a1 b2:List Word)(w27:Y4)(w11:Y6)(again5:Int→Option Bool):Int→Option Bool:=fun i4=>
 (bif decide (i4<(a1.length:Int))then
  (lidx a1 i4).bind fun u9=>
  (lidx b2 i4).bind fun u12=>
  (w27 u9.words_ u12.words_).bind fun r15=>
  (Q0e r15 (w11 u9.cmd_ u12.cmd_)).bind fun r18=>
  (bif (!r15||!r18)then
   some false
  else
   again5 (IntKind.wrap .i64 (i4+1)))
 else
  some true)
def F27(w11:Y6)(w27:Y4)(a1 b2:List Word):Option Bool:=
 iter (Z2m a1 b2 w27 w11) BIG 0
def S27:=SQ31 27
mutual
def K11:Nat→(List Cmd)→(List Cmd)→Option (Bool)
 | 0=>fun _ _=>none
 | n+1=>F11 (K11 n) (K27 n)
def K27:Nat→(List Word)→(List Word)→Option (Bool)
 | 0=>fun _ _=>none
 | n+1=>F27 (K11 n) (K27 n)
end
def F3(s1:Str):Option Bool:=
 (bif decide (4000<(s1.length:Int))then
  (F7).bind fun r4=>
  some r4
 else
  (F8 s1).bind fun(r7,r8,r9)=>
  (F9 s1).bind fun(r12,r13,r14)=>
  (Q0e (decide (r8=r13)&&decide (r9=r14)) (K10 BIG r7 r12)).bind fun r17=>
  (Q0e ((decide (r8=r13)&&decide (r9=r14))&&r17) (K11 BIG r7 r12)).bind fun r20=>
  (Q0e (((decide (r8=r13)&&decide (r9=r14))&&r17)&&r20) (F7)).bind fun r23=>
  some ((((decide (r8=r13)&&decide (r9=r14))&&r17)&&r20)&&r23))
def S3:=SQ3 3 F3
end Go.Abs.U48
