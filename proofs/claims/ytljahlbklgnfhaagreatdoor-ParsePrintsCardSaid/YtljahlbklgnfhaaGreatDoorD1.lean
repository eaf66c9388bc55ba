import Derived.Test.YtljahlbklgnfhaaGreatDoorLB
set_option linter.unusedVariables false
set_option linter.unusedSimpArgs false
set_option linter.defProp false
namespace Go.Abs.U48
open Go.RowKit Go.Proofs
abbrev Y0:=Bool→Str→(List Token)→(List Str)→Int→Option (Int ⊕ (Cmd×Int))
abbrev Y1:=Str→(List Token)→(List Str)→Int→Option (Int ⊕ (Word×Int))
abbrev Y2:=Word→Str→(List Redir)→Option (Str×(List Redir))
abbrev Y3:=Word→Option (Bool)
abbrev Y4:=Cmd→Option (Bool)
abbrev Y5:=Cmd→Str→(List Redir)→Option (Str×(List Redir))
abbrev Y6:=Word→Str→Str→Option (Str×Str)
abbrev Y7:=Cmd→Str→Str→Option (Str×Str)
abbrev Y8:=(List Cmd)→Option (Int)
abbrev Y9:=(List Word)→Option (Int)
abbrev Y10:=Word→Option (Int)
abbrev Y11:=(List Word)→Int→Option (Int)
abbrev Y12:=(List Cmd)→Int→Option (Int)
abbrev Y13:=Cmd→Option (Int)
abbrev V0(x0:Str)(x1:Int)(x2:Nat)(x3:Nat)(x4:Int)(x5:Int)(x6:Int):AObj:=AObj.var [.pv (.str x0),.pv (.int .i64 x1),.vec 1 x2,.vec 2 x3,.pv (.int .i64 x4),.pv (.int .i64 x5),.pv (.int .i64 x6)]
abbrev V1(x:Token):AObj:=AObj.var [.pv (.int .i64 x.kind_),.pv (.int .i64 x.at_),.pv (.str x.text_),.pv (.str x.quoted_)]
abbrev V2(x0:Str)(x1:List Token)(x2:List Str)(x3:Int):AObj:=AObj.var [.pv (.str x0),.pv (.slice (List.map Token.pv x1)),.pv (.slice (List.map PV.str x2)),.pv (.int .i64 x3)]
abbrev V3(x:Token):PV:=PV.agg [.int .i64 x.kind_,.int .i64 x.at_,.str x.text_,.str x.quoted_]
abbrev V4(x0:Int)(x1:Int)(x2:Str):AObj:=AObj.var [.pv (.int .i64 x0),.pv (.int .i64 x1),.pv (.str x2),.nils,.nils,.nils]
abbrev V5(x0:Int)(x1:Int)(x2:Str)(x3:List Word)(x4:List Redir)(x5:List Cmd):AObj:=AObj.var [.pv (.int .i64 x0),.pv (.int .i64 x1),.pv (.str x2),.pv (.slice (List.map Word.pv x3)),.pv (.slice (List.map Redir.pv x4)),.pv (.slice (List.map Cmd.pv x5))]
abbrev V6(x:Cmd):AObj:=AObj.var [.pv (.int .i64 x.kind_),.pv (.int .i64 x.at_),.pv (.str x.name_),.pv (.slice (List.map Word.pv x.words_)),.pv (.slice (List.map Redir.pv x.redirs_)),.pv (.slice (List.map Cmd.pv x.kids_))]
abbrev V7(x0:Int)(x1:Int)(x2:Str)(x3:List Cmd):AObj:=AObj.var [.pv (.int .i64 x0),.pv (.int .i64 x1),.pv (.str x2),.nils,.nils,.pv (.slice (List.map Cmd.pv x3))]
abbrev V8(x0:Int)(x1:Int)(x2:Str)(x3:Nat)(x4:List Cmd):AObj:=AObj.var [.pv (.int .i64 x0),.pv (.int .i64 x1),.pv (.str x2),.nils,.vec 3 x3,.pv (.slice (List.map Cmd.pv x4))]
abbrev V9(x:Cmd):PV:=PV.agg [.int .i64 x.kind_,.int .i64 x.at_,.str x.name_,.slice (List.map Word.pv x.words_),.slice (List.map Redir.pv x.redirs_),.slice (List.map Cmd.pv x.kids_)]
abbrev V10(x:Word):PV:=PV.agg [.int .i64 x.kind_,.str x.text_,.str x.quoted_,.slice (List.map Word.pv x.words_),.slice (List.map Cmd.pv x.cmd_)]
abbrev V11(x:Redir):PV:=PV.agg [.int .i64 x.kind_,.int .i64 x.fd_,.int .i64 x.from_,.int .i64 x.word_.kind_,.str x.word_.text_,.str x.word_.quoted_,.slice (List.map Word.pv x.word_.words_),.slice (List.map Cmd.pv x.word_.cmd_),.bool x.raw_]
abbrev V12(x0:Int)(x1:Int)(x2:Str)(x3:Nat):AObj:=AObj.var [.pv (.int .i64 x0),.pv (.int .i64 x1),.pv (.str x2),.vec 3 x3,.nils,.nils]
abbrev V13(x0:Int)(x1:Int)(x2:Str)(x3:Nat)(x4:Nat):AObj:=AObj.var [.pv (.int .i64 x0),.pv (.int .i64 x1),.pv (.str x2),.vec 3 x3,.vec 4 x4,.nils]
abbrev V14(x0:Int)(x1:Str)(x2:Str):AObj:=AObj.var [.pv (.int .i64 x0),.pv (.str x1),.pv (.str x2),.nils,.nils]
abbrev V15(x0:Int)(x1:Str)(x2:Str)(x3:List Word)(x4:List Cmd):AObj:=AObj.var [.pv (.int .i64 x0),.pv (.str x1),.pv (.str x2),.pv (.slice (List.map Word.pv x3)),.pv (.slice (List.map Cmd.pv x4))]
abbrev V16(x:Redir):AObj:=AObj.var [.pv (.int .i64 x.kind_),.pv (.int .i64 x.fd_),.pv (.int .i64 x.from_),.pv (.int .i64 x.word_.kind_),.pv (.str x.word_.text_),.pv (.str x.word_.quoted_),.pv (.slice (List.map Word.pv x.word_.words_)),.pv (.slice (List.map Cmd.pv x.word_.cmd_)),.pv (.bool x.raw_)]
abbrev V17(x:Word):AObj:=AObj.var [.pv (.int .i64 x.kind_),.pv (.str x.text_),.pv (.str x.quoted_),.pv (.slice (List.map Word.pv x.words_)),.pv (.slice (List.map Cmd.pv x.cmd_))]
abbrev V18(x:Redir):AObj:=AObj.var [.pv (.int .i64 x.word_.kind_),.pv (.str x.word_.text_),.pv (.str x.word_.quoted_),.pv (.slice (List.map Word.pv x.word_.words_)),.pv (.slice (List.map Cmd.pv x.word_.cmd_))]
abbrev V19(x0:Nat)(x1:Nat):AObj:=AObj.var [.selfp 0,.vec 1 x0,.vec 2 x1]
abbrev V20(x:Redir):PV:=PV.agg [.int .i64 x.word_.kind_,.str x.word_.text_,.str x.word_.quoted_,.slice (List.map Word.pv x.word_.words_),.slice (List.map Cmd.pv x.word_.cmd_)]
abbrev vC(x:List Cmd):AV:=.pv (.slice (List.map Cmd.pv x))
abbrev vS(x:List Str):AV:=.pv (.slice (List.map PV.str x))
abbrev vRe(x:List Redir):AV:=.pv (.slice (List.map Redir.pv x))
abbrev vTo(x:List Token):AV:=.pv (.slice (List.map Token.pv x))
abbrev vWo(x:List Word):AV:=.pv (.slice (List.map Word.pv x))
abbrev rSt(x:List Str):AObj:=.row 9 1 (List.map PV.str x) true
abbrev rTo(x:List Token):AObj:=.row 87 4 (List.map Token.pv x) true
abbrev rRe(x:List Redir):AObj:=.row 51 9 (List.map Redir.pv x) true
abbrev rWo(x:List Word):AObj:=.row 49 5 (List.map Word.pv x) true
abbrev rCm(x:List Cmd):AObj:=.row 36 6 (List.map Cmd.pv x) true
def J8u(F:Str→Option (Str)):Spec:=mkS 36 (α:=Str) (ρ:=Str) F (fun b=>([.ref 0 0],[.bld b])) (fun b s=>.ret [as_ s] [.gone])
def Z4x:Spec:=J8u L_String
def Z8p(F:Str→Int→Option (Int)):Spec:=mkS 40 (α:=Str×Int) (ρ:=Int) (fun(s,c)=>F s c) (fun(s,c)=>([as_ s,.pv (.int .u8 c)],[])) (fun(s,c) n=>.ret [ai n] [])
def Q0w:Spec:=Z8p L_IndexByte
def X5i(F:(List Str)→Str→Option (Str)):Spec:=mkS 119 (α:=(List Str)×Str) (ρ:=Str) (fun(xs,sep)=>F xs sep) (fun(xs,sep)=>([.pv (.slice (List.map PV.str xs)),as_ sep],[])) (fun(xs,sep) s=>.ret [as_ s] [])
def X2g:Spec:=X5i L_Join
def Z8m(F:Str→Int→Option (Str)):Spec:=mkS 121 (α:=Str×Int) (ρ:=Str) (fun(b,c)=>F b c) (fun(b,c)=>([.ref 0 0,.pv (.int .u8 c)],[.bld b])) (fun(b,c) d=>.ret [.pv (.nil)] [.bld d])
def Q7h:Spec:=Z8m L_WriteByte
def Z4w(F:Str→Str→Option (Int×Str)):Spec:=mkS 123 (α:=Str×Str) (ρ:=Int×Str) (fun(b,s)=>F b s) (fun(b,s)=>([.ref 0 0,as_ s],[.bld b])) (fun(b,s) (n,c)=>.ret [ai n,.pv (.nil)] [.bld c])
def Q5q:Spec:=Z4w L_WriteString
def J8v(F:Str→Int→Option (Str)):Spec:=mkS 124 (α:=Str×Int) (ρ:=Str) (fun(s,n)=>F s n) (fun(s,n)=>([as_ s,ai n],[])) (fun(s,n) t=>.ret [as_ t] [])
def Q9w:Spec:=J8v L_Repeat
def X2f(F:Str→Str→Option ((List Str))):Spec:=mkS 156 (α:=Str×Str) (ρ:=(List Str)) (fun(s,sep)=>F s sep) (fun(s,sep)=>([as_ s,as_ sep],[])) (fun(s,sep) l=>.ret [.pv (.slice (List.map PV.str l))] [])
def J6e:Spec:=X2f L_Split
def J1j(F:(List Str)→Str→Option (Bool)):Spec:=mkS 157 (α:=(List Str)×Str) (ρ:=Bool) (fun(xs,s)=>F xs s) (fun(xs,s)=>([.pv (.slice (List.map PV.str xs)),as_ s],[])) (fun(xs,s) ok=>.ret [ab ok] [])
def Z4y:Spec:=J1j L_Contains
def K0p(F:Str→Str→Option (Str×Str×Bool)):Spec:=mkS 161 (α:=Str×Str) (ρ:=Str×Str×Bool) (fun(s,sep)=>F s sep) (fun(s,sep)=>([as_ s,as_ sep],[])) (fun(s,sep) (a,b,ok)=>.ret [as_ a,as_ b,ab ok] [])
def J6f:Spec:=K0p L_Cut
def Z8n(F:Str→Str→Option (Bool)):Spec:=mkS 169 (α:=Str×Str) (ρ:=Bool) (fun(s,p)=>F s p) (fun(s,p)=>([as_ s,as_ p],[])) (fun(s,p) ok=>.ret [ab ok] [])
def Z2c:Spec:=Z8n L_SContains
def X5j(F:Int→Option (Str)):Spec:=mkS 189 (α:=Int) (ρ:=Str) F (fun n=>([ai n],[])) (fun n s=>.ret [as_ s] [])
def Z8o:Spec:=X5j L_Itoa
def X5k(F:Str→Option (Int×Bool)):Spec:=mkS 199 (α:=Str) (ρ:=Int×Bool) F (fun s=>([as_ s],[])) (fun s (n,bad)=>.ret [ai n,.pv ((bif bad then PV.ifc else PV.nil))] [])
def J3n:Spec:=X5k L_Atoi
def Z5r(F:Str→Str→Str→Option (Str)):Spec:=mkS 216 (α:=Str×Str×Str) (ρ:=Str) (fun(s,a,b)=>F s a b) (fun(s,a,b)=>([as_ s,as_ a,as_ b],[])) (fun(s,a,b) t=>.ret [as_ t] [])
def Q9v:Spec:=Z5r L_ReplaceAll
def Z6y(u15:Cmd)(w62:Y11)(again7:(Int×Int)→Option Int)(i6:Int)(again26:(Int×Int)→Option Int):(Int×Int)→Option Int:=fun(left24,i25)=>
 (bif decide (i25<(u15.redirs_.length:Int))then
  (lidx u15.redirs_ i25).bind fun u30=>
  (w62 [u30.word_] left24).bind fun r33=>
  again26 (r33,IntKind.wrap .i64 (i25+1))
 else
  (bif decide (left24<0)then
   some (-1)
  else
   again7 (left24,IntKind.wrap .i64 (i6+1))))
def Z5b(l1:List Cmd)(w62:Y11)(w28:Y12)(again7:(Int×Int)→Option Int):(Int×Int)→Option Int:=fun(left5,i6)=>
 (bif decide (i6<(l1.length:Int))then
  (Q0d (!(decide (IntKind.wrap .i64 (left5-1)<0))) (lidx l1 i6)).bind fun u11=>
  (bif ((decide (IntKind.wrap .i64 (left5-1)<0)||decide (2000<(u11.name_.length:Int)))||decide (IntKind.wrap .i64 (left5-1)<(u11.redirs_.length:Int)))then
   some (-1)
  else
   (lidx l1 i6).bind fun u15=>
   (w62 u15.words_ (IntKind.wrap .i64 (left5-1))).bind fun r18=>
   (w28 u15.kids_ r18).bind fun r21=>
   iter (Z6y u15 w62 again7 i6) BIG (r21,0))
 else
  some left5)
def F28(w28:Y12)(w62:Y11)(l1:List Cmd)(left2:Int):Option Int:=
 (bif decide (left2<0)then
  some (-1)
 else
  iter (Z5b l1 w62 w28) BIG (left2,0))
def S28(F:(List Cmd)→Int→Option (Int)):Spec:=mkS 28 (α:=(List Cmd)×Int) (ρ:=Int) (fun(a,b)=>F a b) (fun(a,b)=>([.pv (.slice (List.map Cmd.pv a)),ai b],[])) (fun(a,b) c=>.ret [ai c] [])
def Z6x(l1:List Word)(w62:Y11)(w28:Y12)(again6:(Int×Int)→Option Int):(Int×Int)→Option Int:=fun(left4,i5)=>
 (bif decide (i5<(l1.length:Int))then
  (Q0d (!(decide (IntKind.wrap .i64 (left4-1)<0))) (lidx l1 i5)).bind fun u10=>
  (bif ((decide (IntKind.wrap .i64 (left4-1)<0)||decide (2000<(u10.text_.length:Int)))||decide (2000<(u10.quoted_.length:Int)))then
   some (-1)
  else
   (lidx l1 i5).bind fun u14=>
   (w62 u14.words_ (IntKind.wrap .i64 (left4-1))).bind fun r17=>
   (w28 u14.cmd_ r17).bind fun r20=>
   (bif decide (r20<0)then
    some (-1)
   else
    again6 (r20,IntKind.wrap .i64 (i5+1))))
 else
  some left4)
def F62(w28:Y12)(w62:Y11)(l1:List Word)(left2:Int):Option Int:=
 iter (Z6x l1 w62 w28) BIG (left2,0)
def S62(F:(List Word)→Int→Option (Int)):Spec:=mkS 62 (α:=(List Word)×Int) (ρ:=Int) (fun(a,b)=>F a b) (fun(a,b)=>([.pv (.slice (List.map Word.pv a)),ai b],[])) (fun(a,b) c=>.ret [ai c] [])
mutual
def K28:Nat→(List Cmd)→Int→Option (Int)
 | 0=>fun _ _=>none
 | n+1=>F28 (K28 n) (K62 n)
def K62:Nat→(List Word)→Int→Option (Int)
 | 0=>fun _ _=>none
 | n+1=>F62 (K28 n) (K62 n)
end
def F12(l1:List Cmd):Option Bool:=
 (K28 BIG l1 2000).bind fun r3=>
 some (decide (0≤r3))
def SQ0(n:FuncId)(F:(List Cmd)→Option (Bool)):Spec:=mkS n (α:=(List Cmd)) (ρ:=Bool) F (fun a=>([.pv (.slice (List.map Cmd.pv a))],[])) (fun a b=>.ret [ab b] [])
def S12:=SQ0 12
def F74(s1:Str)(prefix2:Str):Option Bool:=
 (Q0d (decide ((prefix2.length:Int)≤(s1.length:Int))) (Q1o s1 0 (prefix2.length:Int))).bind fun t4=>
 some (decide ((prefix2.length:Int)≤(s1.length:Int))&&decide (t4=prefix2))
def SQ1(n:FuncId)(F:Str→Str→Option (Bool)):Spec:=mkS n (α:=Str×Str) (ρ:=Bool) (fun(a,b)=>F a b) (fun(a,b)=>([as_ a,as_ b],[])) (fun(a,b) c=>.ret [ab c] [])
def S74:=SQ1 74
def F42(s1:Str)(prefix2:Str):Option Bool:=
 (F74 s1 prefix2).bind fun r4=>
 some r4
def S42:=SQ1 42
def X3i(s1:Str)(again8:(Int×(List Str)×(List Int))→Option ((List Str)×(List Int))):(Int×(List Str)×(List Int))→Option ((List Str)×(List Int)):=fun(at5,l6,l7)=>
 (bif decide (at5<(s1.length:Int))then
  (Q1o s1 at5 (s1.length:Int)).bind fun t12=>
  (L_Cut t12 [10]).bind fun(a15,b16,ok17)=>
  (appO 16 l6 [a15]).bind fun out21=>
  (appO 8 l7 [(bif ok17 then IntKind.wrap .i64 ((IntKind.wrap .i64 (at5+(a15.length:Int)))+1)else IntKind.wrap .i64 (at5+(a15.length:Int)))]).bind fun out24=>
  again8 ((bif ok17 then IntKind.wrap .i64 ((IntKind.wrap .i64 (at5+(a15.length:Int)))+1)else IntKind.wrap .i64 (at5+(a15.length:Int))),out21,out24)
 else
  some (l6,l7))
def F117(s1:Str)(at2:Int):Option ((List Str)×(List Int)):=
 iter (X3i s1) BIG (at2,([]:List Str),([]:List Int))
def S117(F:Str→Int→Option ((List Str)×(List Int))):Spec:=mkS 117 (α:=Str×Int) (ρ:=(List Str)×(List Int)) (fun(a,b)=>F a b) (fun(a,b)=>([as_ a,ai b],[])) (fun(a,b) (c,d)=>.ret [.pv (.slice (List.map PV.str c)),.pv (.slice (List.map (PV.int .i64) d))] [])
def X3h(s1:List Str)(v2:Str)(again5:Int→Option Int):Int→Option Int:=fun i4=>
 (bif decide (i4<(s1.length:Int))then
  (lidx s1 i4).bind fun w9=>
  (bif decide (v2=w9)then
   some i4
  else
   again5 (IntKind.wrap .i64 (i4+1)))
 else
  some (-1))
def F118(s1:List Str)(v2:Str):Option Int:=
 iter (X3h s1 v2) BIG 0
def S118(F:(List Str)→Str→Option (Int)):Spec:=mkS 118 (α:=(List Str)×Str) (ρ:=Int) (fun(a,b)=>F a b) (fun(a,b)=>([.pv (.slice (List.map PV.str a)),as_ b],[])) (fun(a,b) c=>.ret [ai c] [])
def F72(s1:Str)(at2:Int)(end3:Str):Option (Str×Int×Int):=
 (bif (decide (at2<0)||decide ((s1.length:Int)<at2))then
  some ([],0,1)
 else
  (F117 s1 at2).bind fun(r8,r9)=>
  (F118 r8 end3).bind fun r12=>
  (bif decide (r12<0)then
   some ([],0,3)
  else
   (bif decide (0<r12)then
    (Q3z r8 0 r12).bind fun l17=>
    (L_Join l17 [10]).bind fun s20=>
    (catO s20 [10]).bind fun s23=>
    (lidx r9 r12).bind fun n26=>
    some (s23,n26,0)
   else
    (lidx r9 r12).bind fun n29=>
    some ([],n29,0))))
def S72(F:Str→Int→Str→Option (Str×Int×Int)):Spec:=mkS 72 (α:=Str×Int×Str) (ρ:=Str×Int×Int) (fun(a,b,c)=>F a b c) (fun(a,b,c)=>([as_ a,ai b,as_ c],[])) (fun(a,b,c) (d,e,f)=>.ret [as_ d,ai e,ai f] [])
def Q8a(off1:Int)(e2:Int)(x3:Str)(x4:Int)(x5:Int)(x6:Int)(x7:Int)(l8:List Token)(l9:List Str):Option (Bool×Int×Int):=
 some (false,off1,e2)
def J1k(F:Int→Int→Str→Int→Int→Int→Int→(List Token)→(List Str)→Option (Bool×Int×Int)):Spec:=mkS 73 (α:=Int×Int×Str×Int×Int×Int×Int×(List Token)×(List Str)) (ρ:=Bool×Int×Int) (fun(a,b,c,d,e,f,g,h,i)=>F a b c d e f g h i) (fun(a,b,c,d,e,f,g,h,i)=>([.ref 0 0,ai a,ai b],[.var [as_ c,ai d,.vec 1 (List.length h),.vec 2 (List.length i),ai e,ai f,ai g],.row 87 4 (List.map Token.pv h) true,.row 9 1 (List.map PV.str i) true])) (fun(a,b,c,d,e,f,g,h,i) (j,k,l)=>.ret [ab j] [.var [as_ c,ai d,.vec 1 (List.length h),.vec 2 (List.length i),ai e,ai k,ai l],.row 87 4 (List.map Token.pv h) true,.row 9 1 (List.map PV.str i) true])
def Q9x(t1:Token)(x2:Str)(x3:Int)(x4:Int)(x5:Int)(x6:Int)(l7:List Token)(l8:List Str):Option (Bool×Int×Int×(List Token)):=
 (bif decide (1024≤(l7.length:Int))then
  (Q8a t1.at_ 4 x2 x3 x4 x5 x6 l7 l8).bind fun(r14,x15,x16)=>
  some (r14,x15,x16,l7)
 else
  (appO 48 l7 [t1]).bind fun out20=>
  some (true,x5,x6,out20))
def J8w(F:Token→Str→Int→Int→Int→Int→(List Token)→(List Str)→Option (Bool×Int×Int×(List Token))):Spec:=mkS 71 (α:=Token×Str×Int×Int×Int×Int×(List Token)×(List Str)) (ρ:=Bool×Int×Int×(List Token)) (fun(a,b,c,d,e,f,g,h)=>F a b c d e f g h) (fun(a,b,c,d,e,f,g,h)=>([.ref 0 0,.pv (.agg [.int .i64 a.kind_,.int .i64 a.at_,.str a.text_,.str a.quoted_])],[.var [as_ b,ai c,.vec 1 (List.length g),.vec 2 (List.length h),ai d,ai e,ai f],.row 87 4 (List.map Token.pv g) true,.row 9 1 (List.map PV.str h) true])) (fun(a,b,c,d,e,f,g,h) (i,j,k,l)=>.ret [ab i] [.var [as_ b,ai c,.vec 1 (List.length l),.vec 2 (List.length h),ai d,ai j,ai k],.row 87 4 (List.map Token.pv l) true,.row 9 1 (List.map PV.str h) true])
def Q7i(x1:Str)(x2:Int)(x3:Int)(x4:Int)(x5:Int)(l6:List Token)(l7:List Str):Option Str:=
 (Q1o x1 x2 (x1.length:Int)).bind fun t9=>
 some t9
def J1l(F:Str→Int→Int→Int→Int→(List Token)→(List Str)→Option (Str)):Spec:=mkS 39 (α:=Str×Int×Int×Int×Int×(List Token)×(List Str)) (ρ:=Str) (fun(a,b,c,d,e,f,g)=>F a b c d e f g) (fun(a,b,c,d,e,f,g)=>([.ref 0 0],[.var [as_ a,ai b,.vec 1 (List.length f),.vec 2 (List.length g),ai c,ai d,ai e],.row 87 4 (List.map Token.pv f) true,.row 9 1 (List.map PV.str g) true])) (fun(a,b,c,d,e,f,g) h=>.ret [as_ h] [.var [as_ a,ai b,.vec 1 (List.length f),.vec 2 (List.length g),ai c,ai d,ai e],.row 87 4 (List.map Token.pv f) true,.row 9 1 (List.map PV.str g) true])
def J6r(x1:Str)(x3:Int)(x4:Int)(x5:Int)(l6:List Token)(l7:List Str)(again10:Int→Option Int):Int→Option Int:=fun x9=>
 (Q7i x1 x9 x3 x4 x5 l6 l7).bind fun r13=>
 (F42 r13 [32]).bind fun r17=>
 (Q0d (!r17) (F42 r13 [9])).bind fun r20=>
 (bif (r17||r20)then
  again10 (IntKind.wrap .i64 (x9+1))
 else
  (F42 r13 [92,10]).bind fun r24=>
  (bif r24 then
   again10 (IntKind.wrap .i64 (x9+2))
  else
   some x9))
def J1w(x1:Str)(x2:Int)(x3:Int)(x4:Int)(x5:Int)(l6:List Token)(l7:List Str):Option Int:=
 iter (J6r x1 x3 x4 x5 l6 l7) BIG x2
def X5o(F:Str→Int→Int→Int→Int→(List Token)→(List Str)→Option (Int)):Spec:=mkS 38 (α:=Str×Int×Int×Int×Int×(List Token)×(List Str)) (ρ:=Int) (fun(a,b,c,d,e,f,g)=>F a b c d e f g) (fun(a,b,c,d,e,f,g)=>([.ref 0 0],[.var [as_ a,ai b,.vec 1 (List.length f),.vec 2 (List.length g),ai c,ai d,ai e],.row 87 4 (List.map Token.pv f) true,.row 9 1 (List.map PV.str g) true])) (fun(a,b,c,d,e,f,g) h=>.ret [] [.var [as_ a,ai h,.vec 1 (List.length f),.vec 2 (List.length g),ai c,ai d,ai e],.row 87 4 (List.map Token.pv f) true,.row 9 1 (List.map PV.str g) true])
def J6q(l7:List Str)(x1:Str)(x3:Int)(x15:Int)(x16:Int)(o17:List Token)(again24:(Int×Int)→Option (Bool×Bool×Int×Int×Int×(List Token))):(Int×Int)→Option (Bool×Bool×Int×Int×Int×(List Token)):=fun(i22,x23)=>
 (bif decide (i22<(l7.length:Int))then
  (lidx l7 i22).bind fun w28=>
  (F72 x1 x23 w28).bind fun(r31,r32,r33)=>
  (bif !decide (r33=0)then
   (Q8a x23 r33 x1 x23 x3 x15 x16 o17 l7).bind fun(r37,x38,x39)=>
   some (false,r37,x23,x38,x39,o17)
  else
   again24 (IntKind.wrap .i64 (i22+1),r32))
 else
  some (true,true,x23,x15,x16,o17))
def J8z(x1:Str)(x2:Int)(x3:Int)(x4:Int)(x5:Int)(l6:List Token)(l7:List Str):Option (Bool×Bool×Int×Int×Int×(List Token)):=
 (Q9x (Token.mk 3 x2 [10] []) x1 x2 x3 x4 x5 l6 l7).bind fun(r14,x15,x16,o17)=>
 (bif !r14 then
  some (false,false,x2,x15,x16,o17)
 else
  iter (J6q l7 x1 x3 x15 x16 o17) BIG (0,IntKind.wrap .i64 (x2+1)))
def K0v(F:Str→Int→Int→Int→Int→(List Token)→(List Str)→Option (Bool×Bool×Int×Int×Int×(List Token))):Spec:=mkS 41 (α:=Str×Int×Int×Int×Int×(List Token)×(List Str)) (ρ:=Bool×Bool×Int×Int×Int×(List Token)) (fun(a,b,c,d,e,f,g)=>F a b c d e f g) (fun(a,b,c,d,e,f,g)=>([.ref 0 0],[.var [as_ a,ai b,.vec 1 (List.length f),.vec 2 (List.length g),ai c,ai d,ai e],.row 87 4 (List.map Token.pv f) true,.row 9 1 (List.map PV.str g) true])) (fun(a,b,c,d,e,f,g) (h,i,j,k,l,m)=>.ret [ab i] (bif h then[.var [as_ a,ai j,.vec 1 (List.length m),.nils,ai c,ai k,ai l],.row 87 4 (List.map Token.pv m) true,.row 9 1 (List.map PV.str g) true]else[.var [as_ a,ai j,.vec 1 (List.length m),.vec 2 (List.length g),ai c,ai k,ai l],.row 87 4 (List.map Token.pv m) true,.row 9 1 (List.map PV.str g) true]))
def Z7f(x1:Str)(x2:Int)(x3:Int)(x4:Int)(x5:Int)(l6:List Token)(l7:List Str):Option Bool:=
 (Q7i x1 x2 x3 x4 x5 l6 l7).bind fun r9=>
 (Q0d (!decide (r9=[])) (sidx r9 0)).bind fun c13=>
 (Q0d (!decide (r9=[])) (L_IndexByte [32,9,10,59,38,124,40,41,123,125,60,62,61,94,96,36,39] c13)).bind fun n16=>
 (Q0d (!decide (r9=[])&&decide (n16<0)) (F42 r9 [92,10])).bind fun r19=>
 some ((!decide (r9=[])&&decide (n16<0))&&!r19)
def SQ2(n:FuncId)(F:Str→Int→Int→Int→Int→(List Token)→(List Str)→Option (Bool)):Spec:=mkS n (α:=Str×Int×Int×Int×Int×(List Token)×(List Str)) (ρ:=Bool) (fun(a,b,c,d,e,f,g)=>F a b c d e f g) (fun(a,b,c,d,e,f,g)=>([.ref 0 0],[.var [as_ a,ai b,.vec 1 (List.length f),.vec 2 (List.length g),ai c,ai d,ai e],.row 87 4 (List.map Token.pv f) true,.row 9 1 (List.map PV.str g) true])) (fun(a,b,c,d,e,f,g) h=>.ret [ab h] [.var [as_ a,ai b,.vec 1 (List.length f),.vec 2 (List.length g),ai c,ai d,ai e],.row 87 4 (List.map Token.pv f) true,.row 9 1 (List.map PV.str g) true])
def X2k:=SQ2 120
def J1z(x1:Str)(x3:Int)(x4:Int)(x5:Int)(l6:List Token)(l7:List Str)(x2:Int)(again15:(Int×Str)→Option (Str×Bool×Int×Int×Int)):(Int×Str)→Option (Str×Bool×Int×Int×Int):=fun(x13,b14)=>
 (Q7i x1 x13 x3 x4 x5 l6 l7).bind fun r18=>
 (L_IndexByte r18 39).bind fun n22=>
 (bif decide (n22<0)then
  (Q8a x2 48 x1 x13 x3 x4 x5 l6 l7).bind fun(r26,x27,x28)=>
  some ([],r26,x13,x27,x28)
 else
  (Q1o x1 x13 (IntKind.wrap .i64 (x13+n22))).bind fun t32=>
  (L_WriteString b14 t32).bind fun(n35,c36)=>
  (Q7i x1 (IntKind.wrap .i64 (x13+(IntKind.wrap .i64 (n22+1)))) x3 x4 x5 l6 l7).bind fun r40=>
  (F42 r40 [39]).bind fun r44=>
  (bif !r44 then
   (L_String c36).bind fun s48=>
   some (s48,true,(IntKind.wrap .i64 (x13+(IntKind.wrap .i64 (n22+1)))),x4,x5)
  else
   (L_WriteByte c36 39).bind fun d52=>
   again15 (IntKind.wrap .i64 ((IntKind.wrap .i64 (x13+(IntKind.wrap .i64 (n22+1))))+1),d52)))
def Z7e(x1:Str)(x2:Int)(x3:Int)(x4:Int)(x5:Int)(l6:List Token)(l7:List Str):Option (Str×Bool×Int×Int×Int):=
 iter (J1z x1 x3 x4 x5 l6 l7 x2) BIG (IntKind.wrap .i64 (x2+1),[])
def X2j(F:Str→Int→Int→Int→Int→(List Token)→(List Str)→Option (Str×Bool×Int×Int×Int)):Spec:=mkS 122 (α:=Str×Int×Int×Int×Int×(List Token)×(List Str)) (ρ:=Str×Bool×Int×Int×Int) (fun(a,b,c,d,e,f,g)=>F a b c d e f g) (fun(a,b,c,d,e,f,g)=>([.ref 0 0],[.var [as_ a,ai b,.vec 1 (List.length f),.vec 2 (List.length g),ai c,ai d,ai e],.row 87 4 (List.map Token.pv f) true,.row 9 1 (List.map PV.str g) true])) (fun(a,b,c,d,e,f,g) (h,i,j,k,l)=>.ret [as_ h,ab i] [.var [as_ a,ai j,.vec 1 (List.length f),.vec 2 (List.length g),ai c,ai k,ai l],.row 87 4 (List.map Token.pv f) true,.row 9 1 (List.map PV.str g) true])
def J6m(x1:Str)(x3:Int)(l6:List Token)(l7:List Str)(again19:(Int×Int×Int×Str×Str)→Option (Str×Str×Bool×Int×Int×Int)):(Int×Int×Int×Str×Str)→Option (Str×Str×Bool×Int×Int×Int):=fun(x14,x15,x16,b17,b18)=>
 (Z7f x1 x14 x3 x15 x16 l6 l7).bind fun r22=>
 (bif r22 then
  (sidx x1 x14).bind fun c27=>
  (L_WriteByte b17 c27).bind fun d30=>
  (L_WriteByte b18 48).bind fun d34=>
  again19 (IntKind.wrap .i64 (x14+1),x15,x16,d30,d34)
 else
  (Q7i x1 x14 x3 x15 x16 l6 l7).bind fun r38=>
  (F42 r38 [39]).bind fun r42=>
  (bif r42 then
   (Z7e x1 x14 x3 x15 x16 l6 l7).bind fun(r46,r47,x48,x49,x50)=>
   (bif !r47 then
    some ([],[],false,x48,x49,x50)
   else
    (L_WriteString b17 r46).bind fun(n55,c56)=>
    (L_Repeat [49] (r46.length:Int)).bind fun t60=>
    (L_WriteString b18 t60).bind fun(n63,c64)=>
    again19 (x48,x49,x50,c56,c64))
  else
   (L_String b17).bind fun s68=>
   (L_String b18).bind fun s72=>
   some (s68,s72,true,x14,x15,x16)))
def J1q(x1:Str)(x2:Int)(x3:Int)(x4:Int)(x5:Int)(l6:List Token)(l7:List Str):Option (Str×Str×Bool×Int×Int×Int):=
 iter (J6m x1 x3 l6 l7) BIG (x2,x4,x5,[],[])
def X5m(F:Str→Int→Int→Int→Int→(List Token)→(List Str)→Option (Str×Str×Bool×Int×Int×Int)):Spec:=mkS 75 (α:=Str×Int×Int×Int×Int×(List Token)×(List Str)) (ρ:=Str×Str×Bool×Int×Int×Int) (fun(a,b,c,d,e,f,g)=>F a b c d e f g) (fun(a,b,c,d,e,f,g)=>([.ref 0 0],[.var [as_ a,ai b,.vec 1 (List.length f),.vec 2 (List.length g),ai c,ai d,ai e],.row 87 4 (List.map Token.pv f) true,.row 9 1 (List.map PV.str g) true])) (fun(a,b,c,d,e,f,g) (h,i,j,k,l,m)=>.ret [as_ h,as_ i,ab j] [.var [as_ a,ai k,.vec 1 (List.length f),.vec 2 (List.length g),ai c,ai l,ai m],.row 87 4 (List.map Token.pv f) true,.row 9 1 (List.map PV.str g) true])
def J8y(x1:Str)(x2:Int)(x3:Int)(x4:Int)(x5:Int)(l6:List Token)(l7:List Str):Option (Bool×Int×Int×Int×(List Token)×(List Str)):=
 (J1w x1 (IntKind.wrap .i64 (x2+2)) x3 x4 x5 l6 l7).bind fun x14=>
 (J1q x1 x14 x3 x4 x5 l6 l7).bind fun(r18,r19,r20,x21,x22,x23)=>
 (bif !r20 then
  some (false,x21,x22,x23,l6,l7)
 else
  (bif decide (x21=x14)then
   (Q8a x14 47 x1 x21 x3 x22 x23 l6 l7).bind fun(r29,x30,x31)=>
   some (r29,x21,x30,x31,l6,l7)
  else
   (appO 16 l7 [r18]).bind fun out35=>
   (Q9x (Token.mk 4 x2 r18 r19) x1 x21 x3 x22 x23 l6 out35).bind fun(r38,x39,x40,o41)=>
   some (r38,x21,x39,x40,o41,out35)))
def K0u(F:Str→Int→Int→Int→Int→(List Token)→(List Str)→Option (Bool×Int×Int×Int×(List Token)×(List Str))):Spec:=mkS 43 (α:=Str×Int×Int×Int×Int×(List Token)×(List Str)) (ρ:=Bool×Int×Int×Int×(List Token)×(List Str)) (fun(a,b,c,d,e,f,g)=>F a b c d e f g) (fun(a,b,c,d,e,f,g)=>([.ref 0 0],[.var [as_ a,ai b,.vec 1 (List.length f),.vec 2 (List.length g),ai c,ai d,ai e],.row 87 4 (List.map Token.pv f) true,.row 9 1 (List.map PV.str g) true])) (fun(a,b,c,d,e,f,g) (h,i,j,k,l,m)=>.ret [ab h] [.var [as_ a,ai i,.vec 1 (List.length l),.vec 2 (List.length m),ai c,ai j,ai k],.row 87 4 (List.map Token.pv l) true,.row 9 1 (List.map PV.str m) true])
def F76(x1:Str)(x2:Int)(x3:Int)(x4:Int)(x5:Int)(l6:List Token)(l7:List Str):Option Bool:=
 (Q0d (decide (0<(l6.length:Int))) (lidx l6 (IntKind.wrap .i64 ((l6.length:Int)-1)))).bind fun u9=>
 some ((decide (0<(l6.length:Int))&&decide (u9.kind_=1))&&decide (x3=x2))
def S76:=SQ2 76
def F166(s1:Str):Option Bool:=
 (L_Atoi s1).bind fun(n3,bad4)=>
 (Q0d ((!bad4&&decide (0≤n3))&&decide (n3<64)) (L_Itoa n3)).bind fun s7=>
 some (((!bad4&&decide (0≤n3))&&decide (n3<64))&&decide (s7=s1))
def SQ3(n:FuncId)(F:Str→Option (Bool)):Spec:=mkS n (α:=Str) (ρ:=Bool) F (fun a=>([as_ a],[])) (fun a b=>.ret [ab b] [])
def S166:=SQ3 166
def F125(s1:Str)(pair2:Bool):Option Int:=
 (L_IndexByte s1 93).bind fun n4=>
 (bif decide (n4<0)then
  some 0
 else
  (Q1o s1 1 n4).bind fun t8=>
  (L_Cut t8 [61]).bind fun(a11,b12,ok13)=>
  (F166 a11).bind fun r16=>
  (Q0d (((r16&&ok13)&&pair2)&&!decide (b12=[])) (F166 b12)).bind fun r19=>
  (bif (!r16||(ok13&&(!pair2||(!decide (b12=[])&&!r19))))then
   some 0
  else
   some (IntKind.wrap .i64 (n4+1))))
def S125(F:Str→Bool→Option (Int)):Spec:=mkS 125 (α:=Str×Bool) (ρ:=Int) (fun(a,b)=>F a b) (fun(a,b)=>([as_ a,ab b],[])) (fun(a,b) c=>.ret [ai c] [])
def X7v(r12:Str)(x4:Int)(x5:Int)(x2:Int)(x1:Str)(x3:Int)(l6:List Token)(l7:List Str)(again40:Int→Option (Str×Bool×Int×Int)):Int→Option (Str×Bool×Int×Int):=fun i39=>
 (bif decide (i39<([[62,62],[62],[60],[124]].length:Int))then
  (lidx [[62,62],[62],[60],[124]] i39).bind fun w44=>
  (F42 r12 w44).bind fun r47=>
  (bif !r47 then
   again40 (IntKind.wrap .i64 (i39+1))
  else
   (Q1o r12 (w44.length:Int) (r12.length:Int)).bind fun t51=>
   (F42 t51 [91]).bind fun r54=>
   (bif !r54 then
    some (w44,true,x4,x5)
   else
    (F125 t51 (!decide (w44=[124]))).bind fun r58=>
    (bif decide (r58=0)then
     (Q8a (IntKind.wrap .i64 (x2+(w44.length:Int))) 47 x1 x2 x3 x4 x5 l6 l7).bind fun(r62,x63,x64)=>
     some ([],r62,x63,x64)
    else
     (Q1o r12 0 (IntKind.wrap .i64 ((w44.length:Int)+r58))).bind fun t68=>
     some (t68,true,x4,x5))))
 else
  some ([],true,x4,x5))
def X7w(r12:Str)(x4:Int)(x5:Int)(x2:Int)(x1:Str)(x3:Int)(l6:List Token)(l7:List Str)(again17:Int→Option (Str×Bool×Int×Int)):Int→Option (Str×Bool×Int×Int):=fun i16=>
 (bif decide (i16<([[38,38],[124,124],[36,35]].length:Int))then
  (lidx [[38,38],[124,124],[36,35]] i16).bind fun w21=>
  (F42 r12 w21).bind fun r24=>
  (bif r24 then
   some (w21,true,x4,x5)
  else
   again17 (IntKind.wrap .i64 (i16+1)))
 else
  (bif decide (r12=[])then
   some ([],true,x4,x5)
  else
   (sidx r12 0).bind fun c29=>
   (L_IndexByte [59,38,40,41,123,125,61,94,96,36,33,64] c29).bind fun n32=>
   (bif decide (0≤n32)then
    (Q1o r12 0 1).bind fun t36=>
    some (t36,true,x4,x5)
   else
    iter (X7v r12 x4 x5 x2 x1 x3 l6 l7) BIG 0)))
def F77(x1:Str)(x2:Int)(x3:Int)(x4:Int)(x5:Int)(l6:List Token)(l7:List Str):Option (Str×Bool×Int×Int):=
 (Q7i x1 x2 x3 x4 x5 l6 l7).bind fun r12=>
 iter (X7w r12 x4 x5 x2 x1 x3 l6 l7) BIG 0
def S77(F:Str→Int→Int→Int→Int→(List Token)→(List Str)→Option (Str×Bool×Int×Int)):Spec:=mkS 77 (α:=Str×Int×Int×Int×Int×(List Token)×(List Str)) (ρ:=Str×Bool×Int×Int) (fun(a,b,c,d,e,f,g)=>F a b c d e f g) (fun(a,b,c,d,e,f,g)=>([.ref 0 0],[.var [as_ a,ai b,.vec 1 (List.length f),.vec 2 (List.length g),ai c,ai d,ai e],.row 87 4 (List.map Token.pv f) true,.row 9 1 (List.map PV.str g) true])) (fun(a,b,c,d,e,f,g) (h,i,j,k)=>.ret [as_ h,ab i] [.var [as_ a,ai b,.vec 1 (List.length f),.vec 2 (List.length g),ai c,ai j,ai k],.row 87 4 (List.map Token.pv f) true,.row 9 1 (List.map PV.str g) true])
def F78(t1:Token)(touches2:Bool)(x3:Str)(x4:Int)(x5:Int)(x6:Int)(x7:Int)(l8:List Token)(l9:List Str):Option (Bool×Int×Int×(List Token)):=
 (Q0d (!(decide (t1.kind_=1))&&(decide (t1.kind_=2)&&!decide (t1.text_=[]))) (sidx t1.text_ 0)).bind fun c14=>
 (Q0d (!(decide (t1.kind_=1))&&(decide (t1.kind_=2)&&!decide (t1.text_=[]))) (L_IndexByte [36,96] c14)).bind fun n17=>
 (bif (touches2&&(decide (t1.kind_=1)||((decide (t1.kind_=2)&&!decide (t1.text_=[]))&&decide (0≤n17))))then
  (Q9x (Token.mk 2 t1.at_ [94] []) x3 x4 x5 x6 x7 l8 l9).bind fun(r20,x21,x22,o23)=>
  (bif !r20 then
   some (false,x21,x22,o23)
  else
   (Q9x t1 x3 x4 x5 x21 x22 o23 l9).bind fun(r28,x29,x30,o31)=>
   some (r28,x29,x30,o31))
 else
  (Q9x t1 x3 x4 x5 x6 x7 l8 l9).bind fun(r21,x22,x23,o24)=>
  some (r21,x22,x23,o24))
def S78(F:Token→Bool→Str→Int→Int→Int→Int→(List Token)→(List Str)→Option (Bool×Int×Int×(List Token))):Spec:=mkS 78 (α:=Token×Bool×Str×Int×Int×Int×Int×(List Token)×(List Str)) (ρ:=Bool×Int×Int×(List Token)) (fun(a,b,c,d,e,f,g,h,i)=>F a b c d e f g h i) (fun(a,b,c,d,e,f,g,h,i)=>([.ref 0 0,.pv (.agg [.int .i64 a.kind_,.int .i64 a.at_,.str a.text_,.str a.quoted_]),ab b],[.var [as_ c,ai d,.vec 1 (List.length h),.vec 2 (List.length i),ai e,ai f,ai g],.row 87 4 (List.map Token.pv h) true,.row 9 1 (List.map PV.str i) true])) (fun(a,b,c,d,e,f,g,h,i) (j,k,l,m)=>.ret [ab j] [.var [as_ c,ai d,.vec 1 (List.length m),.vec 2 (List.length i),ai e,ai k,ai l],.row 87 4 (List.map Token.pv m) true,.row 9 1 (List.map PV.str i) true])
def F126(c1:Int):Option Bool:=
 some (((((decide (97≤c1)&&decide (c1≤122))||(decide (65≤c1)&&decide (c1≤90)))||(decide (48≤c1)&&decide (c1≤57)))||decide (c1=95))||decide (c1=42))
def SQ4(n:FuncId)(F:Int→Option (Bool)):Spec:=mkS n (α:=Int) (ρ:=Bool) F (fun a=>([.pv (.int .u8 a)],[])) (fun a b=>.ret [ab b] [])
def S126:=SQ4 126
def X7u(x1:Str)(x2:Int)(x3:Int)(x4:Int)(x5:Int)(l6:List Token)(l7:List Str)(again14:Int→Option (Bool×Int×Int×Int×(List Token))):Int→Option (Bool×Int×Int×Int×(List Token)):=fun x13=>
 (Q0d (decide (x13<(x1.length:Int))) (sidx x1 x13)).bind fun c17=>
 (Q0d (decide (x13<(x1.length:Int))) (F126 c17)).bind fun r20=>
 (bif (decide (x13<(x1.length:Int))&&r20)then
  again14 (IntKind.wrap .i64 (x13+1))
 else
  (bif decide (x13=x2)then
   (Q8a x2 47 x1 x13 x3 x4 x5 l6 l7).bind fun(r25,x26,x27)=>
   some (r25,x13,x26,x27,l6)
  else
   (Q1o x1 x2 x13).bind fun t31=>
   (L_Repeat [48] (t31.length:Int)).bind fun t34=>
   (Q9x (Token.mk 1 x2 t31 t34) x1 x13 x3 x4 x5 l6 l7).bind fun(r37,x38,x39,o40)=>
   some (r37,x13,x38,x39,o40)))
def F79(x1:Str)(x2:Int)(x3:Int)(x4:Int)(x5:Int)(l6:List Token)(l7:List Str):Option (Bool×Int×Int×Int×(List Token)):=
 iter (X7u x1 x2 x3 x4 x5 l6 l7) BIG x2
def SQ5(n:FuncId)(F:Str→Int→Int→Int→Int→(List Token)→(List Str)→Option (Bool×Int×Int×Int×(List Token))):Spec:=mkS n (α:=Str×Int×Int×Int×Int×(List Token)×(List Str)) (ρ:=Bool×Int×Int×Int×(List Token)) (fun(a,b,c,d,e,f,g)=>F a b c d e f g) (fun(a,b,c,d,e,f,g)=>([.ref 0 0],[.var [as_ a,ai b,.vec 1 (List.length f),.vec 2 (List.length g),ai c,ai d,ai e],.row 87 4 (List.map Token.pv f) true,.row 9 1 (List.map PV.str g) true])) (fun(a,b,c,d,e,f,g) (h,i,j,k,l)=>.ret [ab h] [.var [as_ a,ai i,.vec 1 (List.length l),.vec 2 (List.length g),ai c,ai j,ai k],.row 87 4 (List.map Token.pv l) true,.row 9 1 (List.map PV.str g) true])
def S79:=SQ5 79
def F44(x1:Str)(x2:Int)(x3:Int)(x4:Int)(x5:Int)(l6:List Token)(l7:List Str):Option (Bool×Int×Int×Int×(List Token)):=
 (F76 x1 x2 x3 x4 x5 l6 l7).bind fun r13=>
 (F77 x1 x2 x3 x4 x5 l6 l7).bind fun(r17,r18,x19,x20)=>
 (bif !r18 then
  some (false,x2,x19,x20,l6)
 else
  (bif !decide (r17=[])then
   (F78 (Token.mk 2 x2 r17 []) r13 x1 (IntKind.wrap .i64 (x2+(r17.length:Int))) x3 x19 x20 l6 l7).bind fun(r26,x27,x28,o29)=>
   (bif !r26 then
    some (false,(IntKind.wrap .i64 (x2+(r17.length:Int))),x27,x28,o29)
   else
    (bif (decide (r17=[36])||decide (r17=[36,35]))then
     (F79 x1 (IntKind.wrap .i64 (x2+(r17.length:Int))) x3 x27 x28 o29 l7).bind fun(r35,x36,x37,x38,o39)=>
     some (r35,x36,x37,x38,o39)
    else
     some (true,(IntKind.wrap .i64 (x2+(r17.length:Int))),x27,x28,o29)))
  else
   (J1q x1 x2 x3 x19 x20 l6 l7).bind fun(r43,r44,r45,x46,x47,x48)=>
   (bif r45 then
    (F78 (Token.mk 1 x2 r43 r44) r13 x1 x46 x3 x47 x48 l6 l7).bind fun(r52,x53,x54,o55)=>
    some (r52,x46,x53,x54,o55)
   else
    some (false,x46,x47,x48,l6))))
def S44:=SQ5 44
def X8b(s1:Str)(again12:(Int×Int×Int×Int×(List Token)×(List Str))→Option ((List Token)×Int×Int)):(Int×Int×Int×Int×(List Token)×(List Str))→Option ((List Token)×Int×Int):=fun(x6,x7,x8,x9,l10,l11)=>
 (bif decide (x9=0)then
  (J1w s1 x6 x6 x8 x9 l10 l11).bind fun x16=>
  (Q7i s1 x16 x6 x8 x9 l10 l11).bind fun r20=>
  (bif decide (r20=[])then
   (bif decide (0<(l11.length:Int))then
    some ([],(s1.length:Int),3)
   else
    some (l10,0,0))
  else
   (sidx r20 0).bind fun c26=>
   (bif decide (c26=35)then
    (L_IndexByte r20 10).bind fun n30=>
    (bif decide (0≤n30)then
     again12 (IntKind.wrap .i64 ((IntKind.wrap .i64 (x16+(r20.length:Int)))+(IntKind.wrap .i64 (n30-(r20.length:Int)))),x6,x8,x9,l10,l11)
    else
     again12 (IntKind.wrap .i64 (x16+(r20.length:Int)),x6,x8,x9,l10,l11))
   else
    (bif decide (c26=10)then
     (J8z s1 x16 x6 x8 x9 l10 l11).bind fun(tag35,r36,x37,x38,x39,o40)=>
     (bif tag35 then
      again12 (x37,x6,x38,x39,o40,([]:List Str))
     else
      again12 (x37,x6,x38,x39,o40,l11))
    else
     (F42 r20 [60,60]).bind fun r44=>
     (bif r44 then
      (J8y s1 x16 x6 x8 x9 l10 l11).bind fun(r48,x49,x50,x51,o52,o53)=>
      again12 (x49,x6,x50,x51,o52,o53)
     else
      (F44 s1 x16 x6 x8 x9 l10 l11).bind fun(r57,x58,x59,x60,o61)=>
      again12 (x58,x6,x59,x60,o61,l11)))))
 else
  some ([],x8,x9))
def F19(s1:Str):Option ((List Token)×Int×Int):=
 (bif decide (65536<(s1.length:Int))then
  some ([],0,4)
 else
  iter (X8b s1) BIG (0,0,0,0,([]:List Token),([]:List Str)))
def S19(F:Str→Option ((List Token)×Int×Int)):Spec:=mkS 19 (α:=Str) (ρ:=(List Token)×Int×Int) F (fun a=>([as_ a],[])) (fun a (b,c,d)=>.ret [.pv (.slice (List.map Token.pv b)),ai c,ai d] [])
def X7z(l9:List Int)(tokens2:List Token)(s1:Str)(again10:(Int×(List Str)×(List Int))→Option (List Str))(i7:Int)(again25:(Int×Int×(List Str))→Option (List Str)):(Int×Int×(List Str))→Option (List Str):=fun(at22,i23,l24)=>
 (bif decide (i23<(l9.length:Int))then
  (lidx l9 i23).bind fun n29=>
  (lidx tokens2 n29).bind fun u32=>
  (F72 s1 at22 u32.text_).bind fun(r35,r36,r37)=>
  (lidx l24 n29).bind fun w40=>
  again25 (r36,IntKind.wrap .i64 (i23+1),List.set l24 (Int.toNat n29) r35)
 else
  again10 (IntKind.wrap .i64 (i7+1),l24,([]:List Int)))
def X8a(tokens2:List Token)(s1:Str)(again10:(Int×(List Str)×(List Int))→Option (List Str)):(Int×(List Str)×(List Int))→Option (List Str):=fun(i7,l8,l9)=>
 (bif decide (i7<(tokens2.length:Int))then
  (lidx tokens2 i7).bind fun u14=>
  (bif decide (u14.kind_=4)then
   (appO 8 l9 [i7]).bind fun out18=>
   again10 (IntKind.wrap .i64 (i7+1),l8,out18)
  else
   (bif decide (u14.kind_=3)then
    iter (X7z l9 tokens2 s1 again10 i7) BIG (IntKind.wrap .i64 (u14.at_+1),0,l8)
   else
    again10 (IntKind.wrap .i64 (i7+1),l8,l9)))
 else
  some l8)
def F46(s1:Str)(tokens2:List Token):Option (List Str):=
 (mkO 16 (tokens2.length:Int)).bind fun u4=>
 iter (X8a tokens2 s1) BIG (0,List.replicate (Int.toNat (tokens2.length:Int)) ([]:Str),([]:List Int))
def S46(F:Str→(List Token)→Option ((List Str))):Spec:=mkS 46 (α:=Str×(List Token)) (ρ:=(List Str)) (fun(a,b)=>F a b) (fun(a,b)=>([as_ a,.pv (.slice (List.map Token.pv b))],[])) (fun(a,b) c=>.ret [.pv (.slice (List.map PV.str c))] [])
def F84(ahead1:Int)(x2:Str)(x3:List Token)(x4:List Str)(x5:Int):Option Token:=
 (bif decide ((x3.length:Int)≤IntKind.wrap .i64 (x5+ahead1))then
  some (Token.mk 0 0 [] [])
 else
  (lidx x3 (IntKind.wrap .i64 (x5+ahead1))).bind fun u8=>
  some u8)
def S84(F:Int→Str→(List Token)→(List Str)→Int→Option (Token)):Spec:=mkS 84 (α:=Int×Str×(List Token)×(List Str)×Int) (ρ:=Token) (fun(a,b,c,d,e)=>F a b c d e) (fun(a,b,c,d,e)=>([.ref 0 0,ai a],[.var [as_ b,.pv (.slice (List.map Token.pv c)),.pv (.slice (List.map PV.str d)),ai e]])) (fun(a,b,c,d,e) f=>.ret [.pv (.agg [.int .i64 f.kind_,.int .i64 f.at_,.str f.text_,.str f.quoted_])] [.var [as_ b,.pv (.slice (List.map Token.pv c)),.pv (.slice (List.map PV.str d)),ai e]])
def F128(t1:Token)(symbol2:Str):Option Bool:=
 some (decide (t1.kind_=2)&&decide (t1.text_=symbol2))
def S128(F:Token→Str→Option (Bool)):Spec:=mkS 128 (α:=Token×Str) (ρ:=Bool) (fun(a,b)=>F a b) (fun(a,b)=>([.pv (.agg [.int .i64 a.kind_,.int .i64 a.at_,.str a.text_,.str a.quoted_]),as_ b],[])) (fun(a,b) c=>.ret [ab c] [])
def F127(symbol1:Str)(x2:Str)(x3:List Token)(x4:List Str)(x5:Int):Option Bool:=
 (F84 0 x2 x3 x4 x5).bind fun r7=>
 (F128 r7 symbol1).bind fun r11=>
 some r11
def S127(F:Str→Str→(List Token)→(List Str)→Int→Option (Bool)):Spec:=mkS 127 (α:=Str×Str×(List Token)×(List Str)×Int) (ρ:=Bool) (fun(a,b,c,d,e)=>F a b c d e) (fun(a,b,c,d,e)=>([.ref 0 0,as_ a],[.var [as_ b,.pv (.slice (List.map Token.pv c)),.pv (.slice (List.map PV.str d)),ai e]])) (fun(a,b,c,d,e) f=>.ret [ab f] [.var [as_ b,.pv (.slice (List.map Token.pv c)),.pv (.slice (List.map PV.str d)),ai e]])
def X7t(x1:Str)(x2:List Token)(x3:List Str)(x4:Int)(again8:Int→Option (Bool×Int)):Int→Option (Bool×Int):=fun x7=>
 (F84 0 x1 x2 x3 x7).bind fun r11=>
 (bif decide (r11.kind_=3)then
  again8 (IntKind.wrap .i64 (x7+1))
 else
  (F127 [59] x1 x2 x3 x7).bind fun r15=>
  (bif r15 then
   again8 (IntKind.wrap .i64 (x7+1))
  else
   some (decide (x4<x7),x7)))
def F80(x1:Str)(x2:List Token)(x3:List Str)(x4:Int):Option (Bool×Int):=
 iter (X7t x1 x2 x3 x4) BIG x4
def S80(F:Str→(List Token)→(List Str)→Int→Option (Bool×Int)):Spec:=mkS 80 (α:=Str×(List Token)×(List Str)×Int) (ρ:=Bool×Int) (fun(a,b,c,d)=>F a b c d) (fun(a,b,c,d)=>([.ref 0 0],[.var [as_ a,.pv (.slice (List.map Token.pv b)),.pv (.slice (List.map PV.str c)),ai d]])) (fun(a,b,c,d) (e,f)=>.ret [ab e] [.var [as_ a,.pv (.slice (List.map Token.pv b)),.pv (.slice (List.map PV.str c)),ai f]])
def F133(t1:Token):Option Bool:=
 (Q0d (decide (t1.kind_=1)) (L_IndexByte t1.quoted_ 49)).bind fun n3=>
 some (decide (t1.kind_=1)&&decide (n3<0))
def SQ6(n:FuncId)(F:Token→Option (Bool)):Spec:=mkS n (α:=Token) (ρ:=Bool) F (fun a=>([.pv (.agg [.int .i64 a.kind_,.int .i64 a.at_,.str a.text_,.str a.quoted_])],[])) (fun a b=>.ret [ab b] [])
def S133:=SQ6 133
def F134(s1:Str):Option Bool:=
 (Q0d (!decide (s1=[])) (L_IndexByte s1 32)).bind fun n3=>
 (Q0d (!decide (s1=[])&&decide (n3<0)) (catO [32] s1)).bind fun s6=>
 (Q0d (!decide (s1=[])&&decide (n3<0)) (catO s6 [32])).bind fun s9=>
 (Q0d (!decide (s1=[])&&decide (n3<0)) (L_SContains [32,105,102,32,110,111,116,32,119,104,105,108,101,32,102,111,114,32,105,110,32,115,119,105,116,99,104,32,99,97,115,101,32,102,110,32,126,32] s9)).bind fun ok12=>
 some ((!decide (s1=[])&&decide (n3<0))&&ok12)
def S134:=SQ3 134
def F83(t1:Token):Option Str:=
 (F133 t1).bind fun r3=>
 (Q0d r3 (F134 t1.text_)).bind fun r6=>
 (bif (r3&&r6)then
  some t1.text_
 else
  some [])
def S83(F:Token→Option (Str)):Spec:=mkS 83 (α:=Token) (ρ:=Str) F (fun a=>([.pv (.agg [.int .i64 a.kind_,.int .i64 a.at_,.str a.text_,.str a.quoted_])],[])) (fun a b=>.ret [as_ b] [])
def F129(t1:Token):Option Bool:=
 (bif decide (t1.kind_=1)then
  some true
 else
  (F128 t1 [36]).bind fun r4=>
  (Q0d (!r4) (F128 t1 [36,35])).bind fun r7=>
  (Q0d (!(r4||r7)) (F128 t1 [40])).bind fun r10=>
  (Q0d (!((r4||r7)||r10)) (F128 t1 [96])).bind fun r13=>
  some (((r4||r7)||r10)||r13))
def S129:=SQ6 129
def F130(t1:Token):Option Bool:=
 (Q0d (!(decide (t1.kind_=4))&&decide (t1.kind_=2)) (sidx t1.text_ 0)).bind fun c3=>
 some (decide (t1.kind_=4)||(decide (t1.kind_=2)&&(decide (c3=60)||decide (c3=62))))
def S130:=SQ6 130
def F81(inCase1:Bool)(x2:Str)(x3:List Token)(x4:List Str)(x5:Int):Option Bool:=
 (F84 0 x2 x3 x4 x5).bind fun r7=>
 (Q0d inCase1 (F83 r7)).bind fun r11=>
 (bif (inCase1&&decide (r11=[99,97,115,101]))then
  (F84 1 x2 x3 x4 x5).bind fun r14=>
  (F128 r14 [61]).bind fun r18=>
  (bif !r18 then
   some false
  else
   (F129 r7).bind fun r22=>
   (Q0d (!r22) (F130 r7)).bind fun r25=>
   (Q0d (!(r22||r25)) (F128 r7 [33])).bind fun r28=>
   (Q0d (!((r22||r25)||r28)) (F128 r7 [64])).bind fun r31=>
   (Q0d (!(((r22||r25)||r28)||r31)) (F128 r7 [123])).bind fun r34=>
   some ((((r22||r25)||r28)||r31)||r34))
 else
  (F129 r7).bind fun r15=>
  (Q0d (!r15) (F130 r7)).bind fun r18=>
  (Q0d (!(r15||r18)) (F128 r7 [33])).bind fun r21=>
  (Q0d (!((r15||r18)||r21)) (F128 r7 [64])).bind fun r24=>
  (Q0d (!(((r15||r18)||r21)||r24)) (F128 r7 [123])).bind fun r27=>
  some ((((r15||r18)||r21)||r24)||r27))
def S81(F:Bool→Str→(List Token)→(List Str)→Int→Option (Bool)):Spec:=mkS 81 (α:=Bool×Str×(List Token)×(List Str)×Int) (ρ:=Bool) (fun(a,b,c,d,e)=>F a b c d e) (fun(a,b,c,d,e)=>([.ref 0 0,ab a],[.var [as_ b,.pv (.slice (List.map Token.pv c)),.pv (.slice (List.map PV.str d)),ai e]])) (fun(a,b,c,d,e) f=>.ret [ab f] [.var [as_ b,.pv (.slice (List.map Token.pv c)),.pv (.slice (List.map PV.str d)),ai e]])
def F132(symbol1:Str)(x2:Str)(x3:List Token)(x4:List Str)(x5:Int):Option (Bool×Int):=
 (F127 symbol1 x2 x3 x4 x5).bind fun r8=>
 some (r8,(bif r8 then IntKind.wrap .i64 (x5+1)else x5))
def S132(F:Str→Str→(List Token)→(List Str)→Int→Option (Bool×Int)):Spec:=mkS 132 (α:=Str×Str×(List Token)×(List Str)×Int) (ρ:=Bool×Int) (fun(a,b,c,d,e)=>F a b c d e) (fun(a,b,c,d,e)=>([.ref 0 0,as_ a],[.var [as_ b,.pv (.slice (List.map Token.pv c)),.pv (.slice (List.map PV.str d)),ai e]])) (fun(a,b,c,d,e) (f,g)=>.ret [ab f] [.var [as_ b,.pv (.slice (List.map Token.pv c)),.pv (.slice (List.map PV.str d)),ai g]])
def X3d(x1:Str)(x2:List Token)(x3:List Str)(again7:Int→Option Int):Int→Option Int:=fun x6=>
 (F84 0 x1 x2 x3 x6).bind fun r10=>
 (bif decide (r10.kind_=3)then
  again7 (IntKind.wrap .i64 (x6+1))
 else
  some x6)
def F168(x1:Str)(x2:List Token)(x3:List Str)(x4:Int):Option Int:=
 iter (X3d x1 x2 x3) BIG x4
def S168(F:Str→(List Token)→(List Str)→Int→Option (Int)):Spec:=mkS 168 (α:=Str×(List Token)×(List Str)×Int) (ρ:=Int) (fun(a,b,c,d)=>F a b c d) (fun(a,b,c,d)=>([.ref 0 0],[.var [as_ a,.pv (.slice (List.map Token.pv b)),.pv (.slice (List.map PV.str c)),ai d]])) (fun(a,b,c,d) e=>.ret [] [.var [as_ a,.pv (.slice (List.map Token.pv b)),.pv (.slice (List.map PV.str c)),ai e]])
def J4g(x2:Str)(x3:List Token)(x4:List Str)(w200:Y0)(inCase1:Bool)(again18:(Int×(List Cmd))→Option (Int ⊕ (Cmd×Int))):(Int×(List Cmd))→Option (Int ⊕ (Cmd×Int)):=fun(x16,l17)=>
 (F132 [124] x2 x3 x4 x16).bind fun(r21,x22)=>
 (bif r21 then
  (F168 x2 x3 x4 x22).bind fun x27=>
  Q0o (w200 inCase1 x2 x3 x4 x27) fun(r31,r32)=>
  (appO 104 l17 [r31]).bind fun out39=>
  again18 (r32,out39)
 else
  (bif decide ((l17.length:Int)=1)then
   (lidx l17 0).bind fun u43=>
   some (.inr (u43,x22))
  else
   (lidx l17 0).bind fun u46=>
   some (.inr (Cmd.mk 3 u46.at_ [] [] [] l17,x22))))
def F167(w200:Y0)(inCase1:Bool)(x2:Str)(x3:List Token)(x4:List Str)(x5:Int):Option (Int ⊕ (Cmd×Int)):=
 Q0o (w200 inCase1 x2 x3 x4 x5) fun(r8,r9)=>
 (F132 [124] x2 x3 x4 r9).bind fun(r50,x51)=>
 (bif r50 then
  (F168 x2 x3 x4 x51).bind fun x56=>
  Q0o (w200 inCase1 x2 x3 x4 x56) fun(r60,r61)=>
  (appO 104 [r8] [r60]).bind fun out68=>
  iter (J4g x2 x3 x4 w200 inCase1) BIG (r61,out68)
 else
  (bif decide (([r8].length:Int)=1)then
   some (.inr (r8,x51))
  else
   some (.inr (Cmd.mk 3 r8.at_ [] [] [] [r8],x51))))
def SQ7(n:FuncId)(F:Bool→Str→(List Token)→(List Str)→Int→Option (Int ⊕ (Cmd×Int))):Spec:=mkS n (α:=Bool×Str×(List Token)×(List Str)×Int) (ρ:=Int ⊕ (Cmd×Int)) (fun(a,b,c,d,e)=>F a b c d e) (fun(a,b,c,d,e)=>([.ref 0 0,ab a],[.var [as_ b,.pv (.slice (List.map Token.pv c)),.pv (.slice (List.map PV.str d)),ai e]])) (fun(a,b,c,d,e) r=>match r with|.inl n=>.boom (syn n)|.inr (f,g)=>.ret [.pv (.agg [.int .i64 f.kind_,.int .i64 f.at_,.str f.name_,.slice (List.map Word.pv f.words_),.slice (List.map Redir.pv f.redirs_),.slice (List.map Cmd.pv f.kids_)])] [.var [as_ b,.pv (.slice (List.map Token.pv c)),.pv (.slice (List.map PV.str d)),ai g]])
def S167:=SQ7 167
def Z9i(x2:Str)(x3:List Token)(x4:List Str)(w200:Y0)(inCase1:Bool)(again22:(Int×Int×Str×(List Word)×(List Redir)×(List Cmd))→Option (Int ⊕ (Cmd×Int)))(x17:Int)(r8:Cmd)(x18:Str)(x19:List Word)(x20:List Redir)(x21:List Cmd):(Int×Int)→Option (Int ⊕ (Cmd×Int)):=fun(kind25,x26)=>
 (F168 x2 x3 x4 x26).bind fun x27=>
 Q0o (F167 w200 inCase1 x2 x3 x4 x27) fun(r31,x32)=>
 again22 (x32,kind25,[],([]:List Word),([]:List Redir),[Cmd.mk x17 r8.at_ x18 x19 x20 x21,r31])
def J4j(x2:Str)(x3:List Token)(x4:List Str)(w200:Y0)(inCase1:Bool)(r8:Cmd)(again22:(Int×Int×Str×(List Word)×(List Redir)×(List Cmd))→Option (Int ⊕ (Cmd×Int))):(Int×Int×Str×(List Word)×(List Redir)×(List Cmd))→Option (Int ⊕ (Cmd×Int)):=fun(x16,x17,x18,x19,x20,x21)=>
 (F132 [38,38] x2 x3 x4 x16).bind fun(r39,x40)=>
 (bif r39 then
  Z9i x2 x3 x4 w200 inCase1 again22 x17 r8 x18 x19 x20 x21 (5,x40)
 else
  (F132 [124,124] x2 x3 x4 x40).bind fun(r45,x46)=>
  (bif r45 then
   Z9i x2 x3 x4 w200 inCase1 again22 x17 r8 x18 x19 x20 x21 (6,x46)
  else
   some (.inr (Cmd.mk x17 r8.at_ x18 x19 x20 x21,x46))))
def F131(w200:Y0)(inCase1:Bool)(x2:Str)(x3:List Token)(x4:List Str)(x5:Int):Option (Int ⊕ (Cmd×Int)):=
 Q0o (F167 w200 inCase1 x2 x3 x4 x5) fun(r8,x9)=>
 iter (J4j x2 x3 x4 w200 inCase1 r8) BIG (x9,r8.kind_,r8.name_,r8.words_,r8.redirs_,r8.kids_)
def S131:=SQ7 131
def F82(w200:Y0)(inCase1:Bool)(x2:Str)(x3:List Token)(x4:List Str)(x5:Int):Option (Int ⊕ (Cmd×Int)):=
 Q0o (F131 w200 inCase1 x2 x3 x4 x5) fun(r8,x9)=>
 (F132 [38] x2 x3 x4 x9).bind fun(r16,x17)=>
 (bif r16 then
  some (.inr (Cmd.mk 14 r8.at_ [] [] [] [r8],x17))
 else
  some (.inr (r8,x17)))
def S82:=SQ7 82
def F48(x1:Str)(x2:List Token)(x3:List Str)(x4:Int):Option (Int ⊕ Unit):=
 (bif decide (x4<(x2.length:Int))then
  (lidx x2 x4).bind fun u6=>
  some (.inl u6.at_)
 else
  some (.inl (x1.length:Int)))
def S48(F:Str→(List Token)→(List Str)→Int→Option (Int ⊕ (Unit))):Spec:=mkS 48 (α:=Str×(List Token)×(List Str)×Int) (ρ:=Int ⊕ (Unit)) (fun(a,b,c,d)=>F a b c d) (fun(a,b,c,d)=>([.ref 0 0],[.var [as_ a,.pv (.slice (List.map Token.pv b)),.pv (.slice (List.map PV.str c)),ai d]])) (fun(a,b,c,d) r=>match r with|.inl n=>.boom (syn n)|.inr (_:Unit)=>.ret [] [.var [as_ a,.pv (.slice (List.map Token.pv b)),.pv (.slice (List.map PV.str c)),ai d]])
def X7y(inCase1:Bool)(x2:Str)(x3:List Token)(x4:List Str)(w200:Y0)(again15:(Int×(List Cmd))→Option (Int ⊕ ((List Cmd)×Int))):(Int×(List Cmd))→Option (Int ⊕ ((List Cmd)×Int)):=fun(x13,l14)=>
 (F81 inCase1 x2 x3 x4 x13).bind fun r18=>
 (bif r18 then
  Q0o (F82 w200 inCase1 x2 x3 x4 x13) fun(r23,x24)=>
  (appO 104 l14 [r23]).bind fun out31=>
  (F80 x2 x3 x4 x24).bind fun(r34,x35)=>
  (bif (r34||decide (r23.kind_=14))then
   again15 (x35,out31)
  else
   (bif inCase1 then
    (F84 0 x2 x3 x4 x35).bind fun r40=>
    (F83 r40).bind fun r44=>
    (bif decide (r44=[99,97,115,101])then
     Q0o (F48 x2 x3 x4 x35) fun _=>
     some (.inr (out31,x35))
    else
     some (.inr (out31,x35)))
   else
    some (.inr (out31,x35))))
 else
  some (.inr (l14,x13)))
def F47(w200:Y0)(inCase1:Bool)(x2:Str)(x3:List Token)(x4:List Str)(x5:Int):Option (Int ⊕ ((List Cmd)×Int)):=
 (F80 x2 x3 x4 x5).bind fun(r8,x9)=>
 iter (X7y inCase1 x2 x3 x4 w200) BIG (x9,([]:List Cmd))
def S47(F:Bool→Str→(List Token)→(List Str)→Int→Option (Int ⊕ ((List Cmd)×Int))):Spec:=mkS 47 (α:=Bool×Str×(List Token)×(List Str)×Int) (ρ:=Int ⊕ ((List Cmd)×Int)) (fun(a,b,c,d,e)=>F a b c d e) (fun(a,b,c,d,e)=>([.ref 0 0,ab a],[.var [as_ b,.pv (.slice (List.map Token.pv c)),.pv (.slice (List.map PV.str d)),ai e]])) (fun(a,b,c,d,e) r=>match r with|.inl n=>.boom (syn n)|.inr (f,g)=>.ret [.pv (.slice (List.map Cmd.pv f))] [.var [as_ b,.pv (.slice (List.map Token.pv c)),.pv (.slice (List.map PV.str d)),ai g]])
def Z9h(s1:Str)(again4:Int→Option Bool):Int→Option Bool:=fun i3=>
 (bif decide (i3<(s1.length:Int))then
  (sidx s1 i3).bind fun c8=>
  (bif (((((decide (c8<97)||decide (122<c8))&&(decide (c8<65)||decide (90<c8)))&&(decide (c8<48)||decide (57<c8)))&&!decide (c8=95))&&!decide (c8=42))then
   some false
  else
   again4 (IntKind.wrap .i64 (i3+1)))
 else
  some (!decide (s1=[])))
def F144(s1:Str):Option Bool:=
 iter (Z9h s1) BIG 0
def S144:=SQ3 144
def F223(w200:Y0)(w252:Y1)(inCase1:Bool)(x2:Str)(x3:List Token)(x4:List Str)(x5:Int):Option (Int ⊕ (Cmd×Int)):=
 (F84 0 x2 x3 x4 x5).bind fun r8=>
 Q0o (w252 x2 x3 x4 (IntKind.wrap .i64 (x5+2))) fun(r13,r14)=>
 (F81 false x2 x3 x4 r14).bind fun r21=>
 (bif r21 then
  Q0o (w200 inCase1 x2 x3 x4 r14) fun(r26,r27)=>
  some (.inr (Cmd.mk 2 r8.at_ r8.text_ [r13] [] [r26],r27))
 else
  some (.inr (Cmd.mk 2 r8.at_ r8.text_ [r13] [] [],r14)))
def S223:=SQ7 223
def Z8z(w200:Y0)(inCase3:Bool)(x4:Str)(x5:List Token)(x6:List Str)(Q0h:Int)(r10:Token):Int→Option (Int ⊕ (Cmd×Int)):=fun x14=>
 Q0o (w200 inCase3 x4 x5 x6 x14) fun(r15,r16)=>
 some (.inr (Cmd.mk Q0h r10.at_ [] [] [] [r15],r16))
def F224(w200:Y0)(Q0h:Int)(tokens2:Int)(inCase3:Bool)(x4:Str)(x5:List Token)(x6:List Str)(x7:Int):Option (Int ⊕ (Cmd×Int)):=
 (F84 0 x4 x5 x6 x7).bind fun r10=>
 (bif decide (Q0h=9)then
  (F168 x4 x5 x6 (IntKind.wrap .i64 (x7+tokens2))).bind fun x24=>
  Z8z w200 inCase3 x4 x5 x6 Q0h r10 x24
 else
  Z8z w200 inCase3 x4 x5 x6 Q0h r10 (IntKind.wrap .i64 (x7+tokens2)))
def S224(F:Int→Int→Bool→Str→(List Token)→(List Str)→Int→Option (Int ⊕ (Cmd×Int))):Spec:=mkS 224 (α:=Int×Int×Bool×Str×(List Token)×(List Str)×Int) (ρ:=Int ⊕ (Cmd×Int)) (fun(a,b,c,d,e,f,g)=>F a b c d e f g) (fun(a,b,c,d,e,f,g)=>([.ref 0 0,ai a,ai b,ab c],[.var [as_ d,.pv (.slice (List.map Token.pv e)),.pv (.slice (List.map PV.str f)),ai g]])) (fun(a,b,c,d,e,f,g) r=>match r with|.inl n=>.boom (syn n)|.inr (h,i)=>.ret [.pv (.agg [.int .i64 h.kind_,.int .i64 h.at_,.str h.name_,.slice (List.map Word.pv h.words_),.slice (List.map Redir.pv h.redirs_),.slice (List.map Cmd.pv h.kids_)])] [.var [as_ d,.pv (.slice (List.map Token.pv e)),.pv (.slice (List.map PV.str f)),ai i]])
def F255(symbol1:Str)(x2:Str)(x3:List Token)(x4:List Str)(x5:Int):Option (Int ⊕ (Int×Int)):=
 (F84 0 x2 x3 x4 x5).bind fun r8=>
 (F132 symbol1 x2 x3 x4 x5).bind fun(r12,x13)=>
 (bif !r12 then
  Q0o (F48 x2 x3 x4 x13) fun _=>
  some (.inr (r8.at_,x13))
 else
  some (.inr (r8.at_,x13)))
def S255(F:Str→Str→(List Token)→(List Str)→Int→Option (Int ⊕ (Int×Int))):Spec:=mkS 255 (α:=Str×Str×(List Token)×(List Str)×Int) (ρ:=Int ⊕ (Int×Int)) (fun(a,b,c,d,e)=>F a b c d e) (fun(a,b,c,d,e)=>([.ref 0 0,as_ a],[.var [as_ b,.pv (.slice (List.map Token.pv c)),.pv (.slice (List.map PV.str d)),ai e]])) (fun(a,b,c,d,e) r=>match r with|.inl n=>.boom (syn n)|.inr (f,g)=>.ret [ai f] [.var [as_ b,.pv (.slice (List.map Token.pv c)),.pv (.slice (List.map PV.str d)),ai g]])
def F253(w200:Y0)(x1:Str)(x2:List Token)(x3:List Str)(x4:Int):Option (Int ⊕ ((List Cmd)×Int)):=
 Q0o (F255 [123] x1 x2 x3 x4) fun(r7,x8)=>
 Q0o (F47 w200 false x1 x2 x3 x8) fun(r15,x16)=>
 Q0o (F255 [125] x1 x2 x3 x16) fun(r23,x24)=>
 some (.inr (r15,x24))
def S253(F:Str→(List Token)→(List Str)→Int→Option (Int ⊕ ((List Cmd)×Int))):Spec:=mkS 253 (α:=Str×(List Token)×(List Str)×Int) (ρ:=Int ⊕ ((List Cmd)×Int)) (fun(a,b,c,d)=>F a b c d) (fun(a,b,c,d)=>([.ref 0 0],[.var [as_ a,.pv (.slice (List.map Token.pv b)),.pv (.slice (List.map PV.str c)),ai d]])) (fun(a,b,c,d) r=>match r with|.inl n=>.boom (syn n)|.inr (e,f)=>.ret [.pv (.slice (List.map Cmd.pv e))] [.var [as_ a,.pv (.slice (List.map Token.pv b)),.pv (.slice (List.map PV.str c)),ai f]])
def F288(s1:Str)(prefix2:Str):Option Str:=
 (F74 s1 prefix2).bind fun r4=>
 (bif r4 then
  (Q1o s1 (prefix2.length:Int) (s1.length:Int)).bind fun t8=>
  some t8
 else
  some s1)
def SQ8(n:FuncId)(F:Str→Str→Option (Str)):Spec:=mkS n (α:=Str×Str) (ρ:=Str) (fun(a,b)=>F a b) (fun(a,b)=>([as_ a,as_ b],[])) (fun(a,b) c=>.ret [as_ c] [])
def S288:=SQ8 288
def F276(s1:Str)(prefix2:Str):Option Str:=
 (F288 s1 prefix2).bind fun r4=>
 some r4
def S276:=SQ8 276
def F155(s1:Str)(suffix2:Str):Option Bool:=
 (Q0d (decide ((suffix2.length:Int)≤(s1.length:Int))) (Q1o s1 (IntKind.wrap .i64 ((s1.length:Int)-(suffix2.length:Int))) (s1.length:Int))).bind fun t4=>
 some (decide ((suffix2.length:Int)≤(s1.length:Int))&&decide (t4=suffix2))
def S155:=SQ1 155
def F287(s1:Str)(suffix2:Str):Option Str:=
 (F155 s1 suffix2).bind fun r4=>
 (bif r4 then
  (Q1o s1 0 (IntKind.wrap .i64 ((s1.length:Int)-(suffix2.length:Int)))).bind fun t8=>
  some t8
 else
  some s1)
def S287:=SQ8 287
def F275(s1:Str)(suffix2:Str):Option Str:=
 (F287 s1 suffix2).bind fun r4=>
 some r4
def S275:=SQ8 275
def F277(s1:Str):Option Int:=
 (L_Atoi s1).bind fun(n3,bad4)=>
 some n3
def S277(F:Str→Option (Int)):Spec:=mkS 277 (α:=Str) (ρ:=Int) F (fun a=>([as_ a],[])) (fun a b=>.ret [ai b] [])
def Z8y(w252:Y1)(x1:Str)(x2:List Token)(x3:List Str)(x4:Int)(x25:Int):Int→Option (Int ⊕ (Redir×Int)):=fun x27=>
 Q0o (w252 x1 x2 x3 (IntKind.wrap .i64 (x4+1))) fun(r28,r29)=>
 some (.inr (Redir.mk x25 x27 0 r28 false,r29))
def Z5e(x4:Int)(w252:Y1)(x1:Str)(x2:List Token)(x3:List Str):(Str×Int×Int)→Option (Int ⊕ (Redir×Int)):=fun(rest24,x25,x26)=>
 (bif !decide (rest24=[])then
  (F276 rest24 [91]).bind fun r37=>
  (F275 r37 [93]).bind fun r40=>
  (L_Cut r40 [61]).bind fun(a43,b44,ok45)=>
  (F277 a43).bind fun r48=>
  (bif (ok45&&decide (b44=[]))then
   some (.inr (Redir.mk 6 r48 0 (Word.mk 0 [] [] [] []) false,IntKind.wrap .i64 (x4+1)))
  else
   (bif ok45 then
    (F277 b44).bind fun r53=>
    some (.inr (Redir.mk 5 r48 r53 (Word.mk 0 [] [] [] []) false,IntKind.wrap .i64 (x4+1)))
   else
    Z8y w252 x1 x2 x3 x4 x25 r48))
 else
  Z8y w252 x1 x2 x3 x4 x25 x26)
def F254(w252:Y1)(x1:Str)(x2:List Token)(x3:List Str)(x4:Int):Option (Int ⊕ (Redir×Int)):=
 (F84 0 x1 x2 x3 x4).bind fun r7=>
 (bif decide (r7.kind_=4)then
  (lidx x3 x4).bind fun w12=>
  (L_Repeat [48] (w12.length:Int)).bind fun t15=>
  (L_IndexByte r7.quoted_ 49).bind fun n18=>
  some (.inr (Redir.mk 4 0 0 (Word.mk 1 w12 t15 [] []) (decide (0≤n18)),IntKind.wrap .i64 (x4+1)))
 else
  (Q1o r7.text_ 1 (r7.text_.length:Int)).bind fun t21=>
  (sidx r7.text_ 0).bind fun c56=>
  (bif decide (c56=60)then
   Z5e x4 w252 x1 x2 x3 (t21,1,0)
  else
   (F42 t21 [62]).bind fun r60=>
   (bif r60 then
    (Q1o t21 1 (t21.length:Int)).bind fun t64=>
    Z5e x4 w252 x1 x2 x3 (t64,3,1)
   else
    Z5e x4 w252 x1 x2 x3 (t21,2,1))))
def S254(F:Str→(List Token)→(List Str)→Int→Option (Int ⊕ (Redir×Int))):Spec:=mkS 254 (α:=Str×(List Token)×(List Str)×Int) (ρ:=Int ⊕ (Redir×Int)) (fun(a,b,c,d)=>F a b c d) (fun(a,b,c,d)=>([.ref 0 0],[.var [as_ a,.pv (.slice (List.map Token.pv b)),.pv (.slice (List.map PV.str c)),ai d]])) (fun(a,b,c,d) r=>match r with|.inl n=>.boom (syn n)|.inr (e,f)=>.ret [.pv (.agg [.int .i64 e.kind_,.int .i64 e.fd_,.int .i64 e.from_,.int .i64 e.word_.kind_,.str e.word_.text_,.str e.word_.quoted_,.slice (List.map Word.pv e.word_.words_),.slice (List.map Cmd.pv e.word_.cmd_),.bool e.raw_])] [.var [as_ a,.pv (.slice (List.map Token.pv b)),.pv (.slice (List.map PV.str c)),ai f]])
def X3b(x1:Str)(x2:List Token)(x3:List Str)(w252:Y1)(r7:Token)(r11:List Cmd)(again21:(Int×(List Redir))→Option (Int ⊕ (Cmd×Int))):(Int×(List Redir))→Option (Int ⊕ (Cmd×Int)):=fun(x19,l20)=>
 (F84 0 x1 x2 x3 x19).bind fun r24=>
 (F130 r24).bind fun r28=>
 (bif r28 then
  Q0o (F254 w252 x1 x2 x3 x19) fun(r32,x33)=>
  (appO 120 l20 [r32]).bind fun out40=>
  again21 (x33,out40)
 else
  some (.inr (Cmd.mk 12 r7.at_ [] [] l20 r11,x19)))
def F225(w200:Y0)(w252:Y1)(x1:Str)(x2:List Token)(x3:List Str)(x4:Int):Option (Int ⊕ (Cmd×Int)):=
 (F84 0 x1 x2 x3 x4).bind fun r7=>
 Q0o (F253 w200 x1 x2 x3 x4) fun(r11,x12)=>
 iter (X3b x1 x2 x3 w252 r7 r11) BIG (x12,([]:List Redir))
def SQ9(n:FuncId)(F:Str→(List Token)→(List Str)→Int→Option (Int ⊕ (Cmd×Int))):Spec:=mkS n (α:=Str×(List Token)×(List Str)×Int) (ρ:=Int ⊕ (Cmd×Int)) (fun(a,b,c,d)=>F a b c d) (fun(a,b,c,d)=>([.ref 0 0],[.var [as_ a,.pv (.slice (List.map Token.pv b)),.pv (.slice (List.map PV.str c)),ai d]])) (fun(a,b,c,d) r=>match r with|.inl n=>.boom (syn n)|.inr (e,f)=>.ret [.pv (.agg [.int .i64 e.kind_,.int .i64 e.at_,.str e.name_,.slice (List.map Word.pv e.words_),.slice (List.map Redir.pv e.redirs_),.slice (List.map Cmd.pv e.kids_)])] [.var [as_ a,.pv (.slice (List.map Token.pv b)),.pv (.slice (List.map PV.str c)),ai f]])
def S225:=SQ9 225
def F226(w200:Y0)(Q0h:Int)(inCase2:Bool)(x3:Str)(x4:List Token)(x5:List Str)(x6:Int):Option (Int ⊕ (Cmd×Int)):=
 (F84 0 x3 x4 x5 x6).bind fun r9=>
 Q0o (F255 [40] x3 x4 x5 (IntKind.wrap .i64 (x6+1))) fun(r13,x14)=>
 Q0o (F47 w200 false x3 x4 x5 x14) fun(r21,x22)=>
 Q0o (F255 [41] x3 x4 x5 x22) fun(r29,x30)=>
 (F168 x3 x4 x5 x30).bind fun x37=>
 Q0o (w200 inCase2 x3 x4 x5 x37) fun(r41,r42)=>
 some (.inr (Cmd.mk Q0h r9.at_ [] [] [] [Cmd.mk 12 r13 [] [] [] r21,r41],r42))
def S226(F:Int→Bool→Str→(List Token)→(List Str)→Int→Option (Int ⊕ (Cmd×Int))):Spec:=mkS 226 (α:=Int×Bool×Str×(List Token)×(List Str)×Int) (ρ:=Int ⊕ (Cmd×Int)) (fun(a,b,c,d,e,f)=>F a b c d e f) (fun(a,b,c,d,e,f)=>([.ref 0 0,ai a,ab b],[.var [as_ c,.pv (.slice (List.map Token.pv d)),.pv (.slice (List.map PV.str e)),ai f]])) (fun(a,b,c,d,e,f) r=>match r with|.inl n=>.boom (syn n)|.inr (g,h)=>.ret [.pv (.agg [.int .i64 g.kind_,.int .i64 g.at_,.str g.name_,.slice (List.map Word.pv g.words_),.slice (List.map Redir.pv g.redirs_),.slice (List.map Cmd.pv g.kids_)])] [.var [as_ c,.pv (.slice (List.map Token.pv d)),.pv (.slice (List.map PV.str e)),ai h]])
def F256(x1:Str)(x2:List Token)(x3:List Str)(x4:Int):Option (Int ⊕ (Str×Int)):=
 (F84 0 x1 x2 x3 x4).bind fun r7=>
 (F133 r7).bind fun r11=>
 (Q0d r11 (F144 r7.text_)).bind fun r14=>
 (bif (!r11||!r14)then
  Q0o (F48 x1 x2 x3 x4) fun _=>
  some (.inr (r7.text_,IntKind.wrap .i64 (x4+1)))
 else
  some (.inr (r7.text_,IntKind.wrap .i64 (x4+1))))
def S256(F:Str→(List Token)→(List Str)→Int→Option (Int ⊕ (Str×Int))):Spec:=mkS 256 (α:=Str×(List Token)×(List Str)×Int) (ρ:=Int ⊕ (Str×Int)) (fun(a,b,c,d)=>F a b c d) (fun(a,b,c,d)=>([.ref 0 0],[.var [as_ a,.pv (.slice (List.map Token.pv b)),.pv (.slice (List.map PV.str c)),ai d]])) (fun(a,b,c,d) r=>match r with|.inl n=>.boom (syn n)|.inr (e,f)=>.ret [as_ e] [.var [as_ a,.pv (.slice (List.map Token.pv b)),.pv (.slice (List.map PV.str c)),ai f]])
def X2x(x1:Str)(x2:List Token)(x3:List Str)(w252:Y1)(again9:(Int×(List Word))→Option (Int ⊕ ((List Word)×Int))):(Int×(List Word))→Option (Int ⊕ ((List Word)×Int)):=fun(x7,l8)=>
 (F168 x1 x2 x3 x7).bind fun x12=>
 (F84 0 x1 x2 x3 x12).bind fun r16=>
 (F129 r16).bind fun r20=>
 (bif !r20 then
  some (.inr (l8,x12))
 else
  Q0o (w252 x1 x2 x3 x12) fun(r24,r25)=>
  (appO 88 l8 [r24]).bind fun out32=>
  again9 (r25,out32))
def F257(w252:Y1)(x1:Str)(x2:List Token)(x3:List Str)(x4:Int):Option (Int ⊕ ((List Word)×Int)):=
 iter (X2x x1 x2 x3 w252) BIG (x4,([]:List Word))
def S257(F:Str→(List Token)→(List Str)→Int→Option (Int ⊕ ((List Word)×Int))):Spec:=mkS 257 (α:=Str×(List Token)×(List Str)×Int) (ρ:=Int ⊕ ((List Word)×Int)) (fun(a,b,c,d)=>F a b c d) (fun(a,b,c,d)=>([.ref 0 0],[.var [as_ a,.pv (.slice (List.map Token.pv b)),.pv (.slice (List.map PV.str c)),ai d]])) (fun(a,b,c,d) r=>match r with|.inl n=>.boom (syn n)|.inr (e,f)=>.ret [.pv (.slice (List.map Word.pv e))] [.var [as_ a,.pv (.slice (List.map Token.pv b)),.pv (.slice (List.map PV.str c)),ai f]])
def F227(w200:Y0)(w252:Y1)(inCase1:Bool)(x2:Str)(x3:List Token)(x4:List Str)(x5:Int):Option (Int ⊕ (Cmd×Int)):=
 (F84 0 x2 x3 x4 x5).bind fun r8=>
 Q0o (F255 [40] x2 x3 x4 (IntKind.wrap .i64 (x5+1))) fun(r12,x13)=>
 Q0o (F256 x2 x3 x4 x13) fun(r20,x21)=>
 (F84 0 x2 x3 x4 x21).bind fun r28=>
 (F83 r28).bind fun r32=>
 (bif decide (r32=[105,110])then
  Q0o (F257 w252 x2 x3 x4 (IntKind.wrap .i64 (x21+1))) fun(r36,x37)=>
  Q0o (F255 [41] x2 x3 x4 x37) fun(r44,x45)=>
  (F168 x2 x3 x4 x45).bind fun x52=>
  Q0o (w200 inCase1 x2 x3 x4 x52) fun(r56,r57)=>
  some (.inr (Cmd.mk 10 r8.at_ r20 r36 [] [r56],r57))
 else
  Q0o (F255 [41] x2 x3 x4 x21) fun(r64,x65)=>
  (F168 x2 x3 x4 x65).bind fun x72=>
  Q0o (w200 inCase1 x2 x3 x4 x72) fun(r76,r77)=>
  some (.inr (Cmd.mk 10 r8.at_ r20 [Word.mk 2 [42] [] [] []] [] [r76],r77)))
def S227:=SQ7 227
def J3z(x1:Str)(x2:List Token)(x3:List Str)(w252:Y1)(w200:Y0)(r7:Token)(again21:(Int×(List Word))→Option (Int ⊕ (Cmd×Int))):(Int×(List Word))→Option (Int ⊕ (Cmd×Int)):=fun(x19,l20)=>
 (F84 0 x1 x2 x3 x19).bind fun r24=>
 (F129 r24).bind fun r28=>
 (bif r28 then
  Q0o (w252 x1 x2 x3 x19) fun(r32,r33)=>
  (appO 88 l20 [r32]).bind fun out40=>
  again21 (r33,out40)
 else
  (F80 x1 x2 x3 x19).bind fun(r43,x44)=>
  (bif r43 then
   Q0o (F47 w200 true x1 x2 x3 x44) fun(r49,x50)=>
   some (.inr (Cmd.mk 18 r7.at_ [] l20 [] r49,x50))
  else
   some (.inr (Cmd.mk 18 r7.at_ [] l20 [] [],x44))))
def F258(w200:Y0)(w252:Y1)(x1:Str)(x2:List Token)(x3:List Str)(x4:Int):Option (Int ⊕ (Cmd×Int)):=
 (F84 0 x1 x2 x3 x4).bind fun r7=>
 Q0o (w252 x1 x2 x3 (IntKind.wrap .i64 (x4+1))) fun(r11,r12)=>
 (F84 0 x1 x2 x3 r12).bind fun r58=>
 (F129 r58).bind fun r62=>
 (bif r62 then
  Q0o (w252 x1 x2 x3 r12) fun(r66,r67)=>
  (appO 88 [r11] [r66]).bind fun out74=>
  iter (J3z x1 x2 x3 w252 w200 r7) BIG (r67,out74)
 else
  (F80 x1 x2 x3 r12).bind fun(r77,x78)=>
  (bif r77 then
   Q0o (F47 w200 true x1 x2 x3 x78) fun(r83,x84)=>
   some (.inr (Cmd.mk 18 r7.at_ [] [r11] [] r83,x84))
  else
   some (.inr (Cmd.mk 18 r7.at_ [] [r11] [] [],x78))))
def S258:=SQ9 258
def X3a(x1:Str)(x2:List Token)(x3:List Str)(w200:Y0)(w252:Y1)(r7:Token)(r11:Word)(again34:(Int×(List Cmd))→Option (Int ⊕ (Cmd×Int))):(Int×(List Cmd))→Option (Int ⊕ (Cmd×Int)):=fun(x32,l33)=>
 (F84 0 x1 x2 x3 x32).bind fun r37=>
 (F83 r37).bind fun r41=>
 (bif decide (r41=[99,97,115,101])then
  Q0o (F258 w200 w252 x1 x2 x3 x32) fun(r45,x46)=>
  (appO 104 l33 [r45]).bind fun out53=>
  again34 (x46,out53)
 else
  Q0o (F255 [125] x1 x2 x3 x32) fun(r56,x57)=>
  some (.inr (Cmd.mk 17 r7.at_ [] [r11] [] l33,x57)))
def F228(w200:Y0)(w252:Y1)(x1:Str)(x2:List Token)(x3:List Str)(x4:Int):Option (Int ⊕ (Cmd×Int)):=
 (F84 0 x1 x2 x3 x4).bind fun r7=>
 Q0o (w252 x1 x2 x3 (IntKind.wrap .i64 (x4+1))) fun(r11,r12)=>
 Q0o (F255 [123] x1 x2 x3 r12) fun(r19,x20)=>
 (F80 x1 x2 x3 x20).bind fun(r27,x28)=>
 iter (X3a x1 x2 x3 w200 w252 r7 r11) BIG (x28,([]:List Cmd))
def S228:=SQ9 228
def F229(w200:Y0)(x1:Str)(x2:List Token)(x3:List Str)(x4:Int):Option (Int ⊕ (Cmd×Int)):=
 (F84 0 x1 x2 x3 x4).bind fun r7=>
 Q0o (F256 x1 x2 x3 (IntKind.wrap .i64 (x4+1))) fun(r11,x12)=>
 (F127 [123] x1 x2 x3 x12).bind fun r19=>
 (bif !r19 then
  some (.inr (Cmd.mk 15 r7.at_ r11 [] [] [],x12))
 else
  Q0o (F253 w200 x1 x2 x3 x12) fun(r24,x25)=>
  (bif decide ((r24.length:Int)=0)then
   some (.inr (Cmd.mk 15 r7.at_ r11 [] [] [Cmd.mk 12 0 [] [] [] []],x25))
  else
   some (.inr (Cmd.mk 15 r7.at_ r11 [] [] r24,x25))))
def S229:=SQ9 229
def J4b(x1:Str)(x2:List Token)(x3:List Str)(w252:Y1)(r7:Token)(again21:(Int×(List Word))→Option (Int ⊕ (Cmd×Int))):(Int×(List Word))→Option (Int ⊕ (Cmd×Int)):=fun(x19,l20)=>
 (F84 0 x1 x2 x3 x19).bind fun r24=>
 (F129 r24).bind fun r28=>
 (bif r28 then
  Q0o (w252 x1 x2 x3 x19) fun(r32,r33)=>
  (appO 88 l20 [r32]).bind fun out40=>
  again21 (r33,out40)
 else
  some (.inr (Cmd.mk 16 r7.at_ [] l20 [] [],x19)))
def F230(w252:Y1)(x1:Str)(x2:List Token)(x3:List Str)(x4:Int):Option (Int ⊕ (Cmd×Int)):=
 (F84 0 x1 x2 x3 x4).bind fun r7=>
 Q0o (w252 x1 x2 x3 (IntKind.wrap .i64 (x4+1))) fun(r11,r12)=>
 (F84 0 x1 x2 x3 r12).bind fun r44=>
 (F129 r44).bind fun r48=>
 (bif r48 then
  Q0o (w252 x1 x2 x3 r12) fun(r52,r53)=>
  (appO 88 [r11] [r52]).bind fun out60=>
  iter (J4b x1 x2 x3 w252 r7) BIG (r53,out60)
 else
  some (.inr (Cmd.mk 16 r7.at_ [] [r11] [] [],r12)))
def S230:=SQ9 230
def X2z(x1:Str)(x2:List Token)(x3:List Str)(w252:Y1)(r7:Token)(again14:(Int×(List Word)×(List Redir))→Option (Int ⊕ (Cmd×Int))):(Int×(List Word)×(List Redir))→Option (Int ⊕ (Cmd×Int)):=fun(x11,l12,l13)=>
 (F84 0 x1 x2 x3 x11).bind fun r17=>
 (Q0d (decide ((l12.length:Int)=0)&&decide (0<(l13.length:Int))) (F83 r17)).bind fun r21=>
 (bif ((((decide ((l12.length:Int)=0)&&decide (0<(l13.length:Int)))&&!decide (r21=[]))&&!decide (r21=[110,111,116]))&&!decide (r21=[105,110]))then
  Q0o (F48 x1 x2 x3 x11) fun _=>
  again14 (x11,l12,l13)
 else
  (F129 r17).bind fun r31=>
  (bif r31 then
   Q0o (w252 x1 x2 x3 x11) fun(r35,r36)=>
   (appO 88 l12 [r35]).bind fun out43=>
   again14 (r36,out43,l13)
  else
   (F130 r17).bind fun r46=>
   (bif r46 then
    Q0o (F254 w252 x1 x2 x3 x11) fun(r50,x51)=>
    (appO 120 l13 [r50]).bind fun out58=>
    again14 (x51,l12,out58)
   else
    some (.inr (Cmd.mk 1 r7.at_ [] l12 l13 [],x11)))))
def F231(w252:Y1)(x1:Str)(x2:List Token)(x3:List Str)(x4:Int):Option (Int ⊕ (Cmd×Int)):=
 (F84 0 x1 x2 x3 x4).bind fun r7=>
 iter (X2z x1 x2 x3 w252 r7) BIG (x4,([]:List Word),([]:List Redir))
def S231:=SQ9 231
def Z9b(inCase1:Bool)(x2:Str)(x3:List Token)(x4:List Str)(w252:Y1):Int→Option (Int ⊕ (Cmd×Int)):=fun x70=>
 (F81 inCase1 x2 x3 x4 x70).bind fun r71=>
 (bif !r71 then
  Q0o (F48 x2 x3 x4 x70) fun _=>
  Q0o (F231 w252 x2 x3 x4 x70) fun(r82,x83)=>
  some (.inr (r82,x83))
 else
  Q0o (F231 w252 x2 x3 x4 x70) fun(r90,x91)=>
  some (.inr (r90,x91)))
def F200(w200:Y0)(w252:Y1)(inCase1:Bool)(x2:Str)(x3:List Token)(x4:List Str)(x5:Int):Option (Int ⊕ (Cmd×Int)):=
 (F84 0 x2 x3 x4 x5).bind fun r8=>
 (F84 1 x2 x3 x4 x5).bind fun r12=>
 (F133 r8).bind fun r16=>
 (Q0d r16 (F144 r8.text_)).bind fun r19=>
 (Q0d (r16&&r19) (F128 r12 [61])).bind fun r22=>
 (bif ((r16&&r19)&&r22)then
  Q0o (F223 w200 w252 inCase1 x2 x3 x4 x5) fun(r26,x27)=>
  some (.inr (r26,x27))
 else
  (F128 r8 [33]).bind fun r34=>
  (bif r34 then
   Q0o (F224 w200 7 1 inCase1 x2 x3 x4 x5) fun(r38,x39)=>
   some (.inr (r38,x39))
  else
   (F128 r8 [64]).bind fun r46=>
   (bif r46 then
    Q0o (F224 w200 13 1 inCase1 x2 x3 x4 x5) fun(r50,x51)=>
    some (.inr (r50,x51))
   else
    (F128 r8 [123]).bind fun r58=>
    (bif r58 then
     Q0o (F225 w200 w252 x2 x3 x4 x5) fun(r62,x63)=>
     some (.inr (r62,x63))
    else
     (F83 r8).bind fun r98=>
     (bif decide (r98=[105,102])then
      (F83 r12).bind fun r102=>
      (bif decide (r102=[110,111,116])then
       Q0o (F224 w200 9 2 inCase1 x2 x3 x4 x5) fun(r106,x107)=>
       some (.inr (r106,x107))
      else
       Q0o (F226 w200 8 inCase1 x2 x3 x4 x5) fun(r114,x115)=>
       some (.inr (r114,x115)))
     else
      (bif decide (r98=[119,104,105,108,101])then
       Q0o (F226 w200 11 inCase1 x2 x3 x4 x5) fun(r123,x124)=>
       some (.inr (r123,x124))
      else
       (bif decide (r98=[102,111,114])then
        Q0o (F227 w200 w252 inCase1 x2 x3 x4 x5) fun(r132,x133)=>
        some (.inr (r132,x133))
       else
        (bif decide (r98=[115,119,105,116,99,104])then
         Q0o (F228 w200 w252 x2 x3 x4 x5) fun(r141,x142)=>
         some (.inr (r141,x142))
        else
         (bif decide (r98=[102,110])then
          Q0o (F229 w200 x2 x3 x4 x5) fun(r150,x151)=>
          some (.inr (r150,x151))
         else
          (bif decide (r98=[126])then
           Q0o (F230 w252 x2 x3 x4 x5) fun(r159,x160)=>
           some (.inr (r159,x160))
          else
           (bif decide (r98=[99,97,115,101])then
            Q0o (F48 x2 x3 x4 (IntKind.wrap .i64 (x5+1))) fun _=>
            Z9b inCase1 x2 x3 x4 w252 (IntKind.wrap .i64 (x5+1))
           else
            Z9b inCase1 x2 x3 x4 w252 x5)))))))))))
def S200:=SQ7 200
def Z8w(x1:Str)(x2:List Token)(x3:List Str)(x29:Int)(r11:Str)(r28:List Word):Unit→Option (Int ⊕ (Word×Int)):=fun _=>
 Q0o (F255 [41] x1 x2 x3 x29) fun(r36,x37)=>
 some (.inr (Word.mk 7 r11 [] r28 [],x37))
def F286(w252:Y1)(x1:Str)(x2:List Token)(x3:List Str)(x4:Int):Option (Int ⊕ (Word×Int)):=
 (F84 0 x1 x2 x3 x4).bind fun r7=>
 Q0o (F256 x1 x2 x3 x4) fun(r11,x12)=>
 (F127 [40] x1 x2 x3 x12).bind fun r19=>
 (bif !r19 then
  some (.inr (Word.mk 2 r11 [] [] [],x12))
 else
  (F84 0 x1 x2 x3 x12).bind fun r23=>
  (bif !decide (r23.at_=IntKind.wrap .i64 (r7.at_+(r7.text_.length:Int)))then
   some (.inr (Word.mk 2 r11 [] [] [],x12))
  else
   Q0o (F257 w252 x1 x2 x3 (IntKind.wrap .i64 (x12+1))) fun(r28,x29)=>
   (bif decide ((r28.length:Int)=0)then
    Q0o (F48 x1 x2 x3 x29) fun _=>
    Z8w x1 x2 x3 x29 r11 r28 ()
   else
    Z8w x1 x2 x3 x29 r11 r28 ())))
def SQ10(n:FuncId)(F:Str→(List Token)→(List Str)→Int→Option (Int ⊕ (Word×Int))):Spec:=mkS n (α:=Str×(List Token)×(List Str)×Int) (ρ:=Int ⊕ (Word×Int)) (fun(a,b,c,d)=>F a b c d) (fun(a,b,c,d)=>([.ref 0 0],[.var [as_ a,.pv (.slice (List.map Token.pv b)),.pv (.slice (List.map PV.str c)),ai d]])) (fun(a,b,c,d) r=>match r with|.inl n=>.boom (syn n)|.inr (e,f)=>.ret [.pv (.agg [.int .i64 e.kind_,.str e.text_,.str e.quoted_,.slice (List.map Word.pv e.words_),.slice (List.map Cmd.pv e.cmd_)])] [.var [as_ a,.pv (.slice (List.map Token.pv b)),.pv (.slice (List.map PV.str c)),ai f]])
def S286:=SQ10 286
def Z8x(r7:Token)(x4:Int)(w252:Y1)(x1:Str)(x2:List Token)(x3:List Str)(w200:Y0):Unit→Option (Int ⊕ (Word×Int)):=fun _=>
 (bif decide (r7.kind_=1)then
  some (.inr (Word.mk 1 r7.text_ r7.quoted_ [] [],IntKind.wrap .i64 (x4+1)))
 else
  (bif decide (r7.text_=[36])then
   Q0o (F286 w252 x1 x2 x3 (IntKind.wrap .i64 (x4+1))) fun(r13,x14)=>
   some (.inr (r13,x14))
  else
   (bif decide (r7.text_=[36,35])then
    Q0o (F256 x1 x2 x3 (IntKind.wrap .i64 (x4+1))) fun(r22,x23)=>
    some (.inr (Word.mk 3 r22 [] [] [],x23))
   else
    (bif decide (r7.text_=[40])then
     Q0o (F257 w252 x1 x2 x3 (IntKind.wrap .i64 (x4+1))) fun(r31,x32)=>
     Q0o (F255 [41] x1 x2 x3 x32) fun(r39,x40)=>
     some (.inr (Word.mk 5 [] [] r31 [],x40))
    else
     Q0o (F253 w200 x1 x2 x3 (IntKind.wrap .i64 (x4+1))) fun(r47,x48)=>
     some (.inr (Word.mk 6 [] [] [] r47,x48))))))
def F274(w200:Y0)(w252:Y1)(x1:Str)(x2:List Token)(x3:List Str)(x4:Int):Option (Int ⊕ (Word×Int)):=
 (F84 0 x1 x2 x3 x4).bind fun r7=>
 (F129 r7).bind fun r55=>
 (bif !r55 then
  Q0o (F48 x1 x2 x3 x4) fun _=>
  Z8x r7 x4 w252 x1 x2 x3 w200 ()
 else
  Z8x r7 x4 w252 x1 x2 x3 w200 ())
def S274:=SQ10 274
def J4a(x1:Str)(x2:List Token)(x3:List Str)(w200:Y0)(w252:Y1)(again17:(Int×(List Word))→Option (Int ⊕ (Word×Int))):(Int×(List Word))→Option (Int ⊕ (Word×Int)):=fun(x15,l16)=>
 (F132 [94] x1 x2 x3 x15).bind fun(r20,x21)=>
 (bif r20 then
  Q0o (F274 w200 w252 x1 x2 x3 x21) fun(r26,x27)=>
  (appO 88 l16 [r26]).bind fun out34=>
  again17 (x27,out34)
 else
  (bif decide ((l16.length:Int)=1)then
   (lidx l16 0).bind fun u38=>
   some (.inr (u38,x21))
  else
   some (.inr (Word.mk 4 [] [] l16 [],x21))))
def F252(w200:Y0)(w252:Y1)(x1:Str)(x2:List Token)(x3:List Str)(x4:Int):Option (Int ⊕ (Word×Int)):=
 Q0o (F274 w200 w252 x1 x2 x3 x4) fun(r7,x8)=>
 (F132 [94] x1 x2 x3 x8).bind fun(r42,x43)=>
 (bif r42 then
  Q0o (F274 w200 w252 x1 x2 x3 x43) fun(r48,x49)=>
  (appO 88 [r7] [r48]).bind fun out56=>
  iter (J4a x1 x2 x3 w200 w252) BIG (x49,out56)
 else
  (bif decide (([r7].length:Int)=1)then
   some (.inr (r7,x43))
  else
   some (.inr (Word.mk 4 [] [] [r7] [],x43))))
def S252:=SQ10 252
mutual
def K200:Nat→Bool→Str→(List Token)→(List Str)→Int→Option (Int ⊕ (Cmd×Int))
 | 0=>fun _ _ _ _ _=>none
 | n+1=>F200 (K200 n) (K252 n)
def K252:Nat→Str→(List Token)→(List Str)→Int→Option (Int ⊕ (Word×Int))
 | 0=>fun _ _ _ _=>none
 | n+1=>F252 (K200 n) (K252 n)
end
def F20(s1:Str)(tokens2:List Token):Option ((List Cmd)×Int×Int):=
 (F46 s1 tokens2).bind fun docs3=>
 match F47 (K200 BIG) false s1 tokens2 docs3 0 with
 | none=>none
 | some (.inl n)=>some ([],n,47)
 | some (.inr (out4,next5))=>
  (bif decide (next5<(tokens2.length:Int))then
   match F48 s1 tokens2 docs3 next5 with
   | some (.inl n)=>some ([],n,47)
   | _=>none
  else
   some (out4,0,0))
def S20(F:Str→(List Token)→Option ((List Cmd)×Int×Int)):Spec:=mkS 20 (α:=Str×(List Token)) (ρ:=(List Cmd)×Int×Int) (fun(a,b)=>F a b) (fun(a,b)=>([as_ a,.pv (.slice (List.map Token.pv b))],[])) (fun(a,b) (c,d,e)=>.ret [.pv (.slice (List.map Cmd.pv c)),ai d,ai e] [])
def F32(r1:Redir):Option Bool:=
 some (!decide (r1.kind_=5)&&!decide (r1.kind_=6))
def SQ11(n:FuncId)(F:Redir→Option (Bool)):Spec:=mkS n (α:=Redir) (ρ:=Bool) F (fun a=>([.pv (.agg [.int .i64 a.kind_,.int .i64 a.fd_,.int .i64 a.from_,.int .i64 a.word_.kind_,.str a.word_.text_,.str a.word_.quoted_,.slice (List.map Word.pv a.word_.words_),.slice (List.map Cmd.pv a.word_.cmd_),.bool a.raw_])],[])) (fun a b=>.ret [ab b] [])
def S32:=SQ11 32
def J1y(u9:Cmd)(w31:Y10)(again5:(Int×Int)→Option Int)(i4:Int)(again29:(Int×Int)→Option Int):(Int×Int)→Option Int:=fun(n27,i28)=>
 (bif decide (i28<(u9.redirs_.length:Int))then
  (lidx u9.redirs_ i28).bind fun u33=>
  (F32 u33).bind fun r36=>
  (bif r36 then
   (w31 u33.word_).bind fun r40=>
   again29 (IntKind.wrap .i64 (n27+r40),IntKind.wrap .i64 (i28+1))
  else
   again29 (n27,IntKind.wrap .i64 (i28+1)))
 else
  again5 (n27,IntKind.wrap .i64 (i4+1)))
def J6x(u9:Cmd)(w31:Y10)(again5:(Int×Int)→Option Int)(i4:Int)(again17:(Int×Int)→Option Int):(Int×Int)→Option Int:=fun(n15,i16)=>
 (bif decide (i16<(u9.words_.length:Int))then
  (lidx u9.words_ i16).bind fun u21=>
  (w31 u21).bind fun r24=>
  again17 (IntKind.wrap .i64 (n15+r24),IntKind.wrap .i64 (i16+1))
 else
  iter (J1y u9 w31 again5 i4) BIG (n15,0))
def Z7c(l1:List Cmd)(w15:Y8)(w31:Y10)(again5:(Int×Int)→Option Int):(Int×Int)→Option Int:=fun(n3,i4)=>
 (bif decide (i4<(l1.length:Int))then
  (lidx l1 i4).bind fun u9=>
  (w15 u9.kids_).bind fun r12=>
  iter (J6x u9 w31 again5 i4) BIG (IntKind.wrap .i64 (n3+(IntKind.wrap .i64 ((IntKind.wrap .i64 (1+(u9.redirs_.length:Int)))+r12))),0)
 else
  some n3)
def F15(w15:Y8)(w31:Y10)(l1:List Cmd):Option Int:=
 iter (Z7c l1 w15 w31) BIG (0,0)
def SQ12(n:FuncId)(F:(List Cmd)→Option (Int)):Spec:=mkS n (α:=(List Cmd)) (ρ:=Int) F (fun a=>([.pv (.slice (List.map Cmd.pv a))],[])) (fun a b=>.ret [ai b] [])
def S15:=SQ12 15
def X2v(w1:Word)(w31:Y10)(again8:(Int×Int)→Option Int):(Int×Int)→Option Int:=fun(n6,i7)=>
 (bif decide (i7<(w1.words_.length:Int))then
  (lidx w1.words_ i7).bind fun u12=>
  (w31 u12).bind fun r15=>
  again8 (IntKind.wrap .i64 (n6+r15),IntKind.wrap .i64 (i7+1))
 else
  some n6)
def F31(w15:Y8)(w31:Y10)(w1:Word):Option Int:=
 (w15 w1.cmd_).bind fun r3=>
 iter (X2v w1 w31) BIG (IntKind.wrap .i64 (1+r3),0)
def SQ13(n:FuncId)(F:Word→Option (Int)):Spec:=mkS n (α:=Word) (ρ:=Int) F (fun a=>([.pv (.agg [.int .i64 a.kind_,.str a.text_,.str a.quoted_,.slice (List.map Word.pv a.words_),.slice (List.map Cmd.pv a.cmd_)])],[])) (fun a b=>.ret [ai b] [])
def S31:=SQ13 31
mutual
def K15:Nat→(List Cmd)→Option (Int)
 | 0=>fun _=>none
 | n+1=>F15 (K15 n) (K31 n)
def K31:Nat→Word→Option (Int)
 | 0=>fun _=>none
 | n+1=>F31 (K15 n) (K31 n)
end
def J1s(c1:Cmd)(w86:Y10)(again29:(Int×Int)→Option Int):(Int×Int)→Option Int:=fun(n27,i28)=>
 (bif decide (i28<(c1.redirs_.length:Int))then
  (lidx c1.redirs_ i28).bind fun u33=>
  (F32 u33).bind fun r36=>
  (bif r36 then
   (w86 u33.word_).bind fun r40=>
   again29 (imax n27 r40,IntKind.wrap .i64 (i28+1))
  else
   again29 (n27,IntKind.wrap .i64 (i28+1)))
 else
  some (IntKind.wrap .i64 (n27+1)))
def J6p(c1:Cmd)(w86:Y10)(again17:(Int×Int)→Option Int):(Int×Int)→Option Int:=fun(n15,i16)=>
 (bif decide (i16<(c1.words_.length:Int))then
  (lidx c1.words_ i16).bind fun u21=>
  (w86 u21).bind fun r24=>
  again17 (imax n15 r24,IntKind.wrap .i64 (i16+1))
 else
  iter (J1s c1 w86) BIG (n15,0))
def X2t(c1:Cmd)(w51:Y13)(w86:Y10)(again5:(Int×Int)→Option Int):(Int×Int)→Option Int:=fun(n3,i4)=>
 (bif decide (i4<(c1.kids_.length:Int))then
  (lidx c1.kids_ i4).bind fun u9=>
  (w51 u9).bind fun r12=>
  again5 (imax n3 r12,IntKind.wrap .i64 (i4+1))
 else
  iter (J6p c1 w86) BIG (n3,0))
def F51(w51:Y13)(w86:Y10)(c1:Cmd):Option Int:=
 iter (X2t c1 w51 w86) BIG (0,0)
def S51(F:Cmd→Option (Int)):Spec:=mkS 51 (α:=Cmd) (ρ:=Int) F (fun a=>([.pv (.agg [.int .i64 a.kind_,.int .i64 a.at_,.str a.name_,.slice (List.map Word.pv a.words_),.slice (List.map Redir.pv a.redirs_),.slice (List.map Cmd.pv a.kids_)])],[])) (fun a b=>.ret [ai b] [])
def J6l(w1:Word)(w51:Y13)(again17:(Int×Int)→Option Int):(Int×Int)→Option Int:=fun(n15,i16)=>
 (bif decide (i16<(w1.cmd_.length:Int))then
  (lidx w1.cmd_ i16).bind fun u21=>
  (w51 u21).bind fun r24=>
  again17 (imax n15 r24,IntKind.wrap .i64 (i16+1))
 else
  some (IntKind.wrap .i64 (n15+1)))
def X2p(w1:Word)(w86:Y10)(w51:Y13)(again5:(Int×Int)→Option Int):(Int×Int)→Option Int:=fun(n3,i4)=>
 (bif decide (i4<(w1.words_.length:Int))then
  (lidx w1.words_ i4).bind fun u9=>
  (w86 u9).bind fun r12=>
  again5 (imax n3 r12,IntKind.wrap .i64 (i4+1))
 else
  iter (J6l w1 w51) BIG (n3,0))
def F86(w51:Y13)(w86:Y10)(w1:Word):Option Int:=
 iter (X2p w1 w86 w51) BIG (0,0)
def S86:=SQ13 86
mutual
def K51:Nat→Cmd→Option (Int)
 | 0=>fun _=>none
 | n+1=>F51 (K51 n) (K86 n)
def K86:Nat→Word→Option (Int)
 | 0=>fun _=>none
 | n+1=>F86 (K51 n) (K86 n)
end
def F50(c1:Cmd):Option Bool:=
 (K51 BIG c1).bind fun r3=>
 some (decide (32<r3))
def SQ14(n:FuncId)(F:Cmd→Option (Bool)):Spec:=mkS n (α:=Cmd) (ρ:=Bool) F (fun a=>([.pv (.agg [.int .i64 a.kind_,.int .i64 a.at_,.str a.name_,.slice (List.map Word.pv a.words_),.slice (List.map Redir.pv a.redirs_),.slice (List.map Cmd.pv a.kids_)])],[])) (fun a b=>.ret [ab b] [])
def S50:=SQ14 50
def X2q(s1:List Cmd)(again4:Int→Option Int):Int→Option Int:=fun i3=>
 (bif decide (i3<(s1.length:Int))then
  (lidx s1 i3).bind fun u8=>
  (F50 u8).bind fun r11=>
  (bif r11 then
   some i3
  else
   again4 (IntKind.wrap .i64 (i3+1)))
 else
  some (-1))
def F85(s1:List Cmd):Option Int:=
 iter (X2q s1) BIG 0
def S85(F:(List Cmd)→Option (Int)):Spec:=mkS 85 (α:=(List Cmd)) (ρ:=Int) F (fun a=>([.pv (.slice (List.map Cmd.pv a)),.fn 50 []],[])) (fun a b=>.ret [ai b] [])
def F49(s1:List Cmd):Option Bool:=
 (F85 s1).bind fun r3=>
 some (decide (0≤r3))
def S49(F:(List Cmd)→Option (Bool)):Spec:=mkS 49 (α:=(List Cmd)) (ρ:=Bool) F (fun a=>([.pv (.slice (List.map Cmd.pv a)),.fn 50 []],[])) (fun a b=>.ret [ab b] [])
def F21(l1:List Cmd):Option Bool:=
 (K15 BIG l1).bind fun r3=>
 (bif decide (r3≤1024)then
  (F49 l1).bind fun r6=>
  some (!r6)
 else
  some false)
def S21:=SQ0 21
def F8(s1:Str):Option ((List Cmd)×Int×Int):=
 (F19 s1).bind fun(r5,r6,r7)=>
 (bif !decide (r7=0)then
  some ([],r6,r7)
 else
  (F20 s1 r5).bind fun(r11,r12,r13)=>
  (bif !decide (r13=0)then
   some ([],r12,r13)
  else
   (F21 r11).bind fun r17=>
   (bif !r17 then
    some ([],0,4)
   else
    some (r11,0,0))))
def S8(F:Str→Option ((List Cmd)×Int×Int)):Spec:=mkS 8 (α:=Str) (ρ:=(List Cmd)×Int×Int) F (fun a=>([as_ a],[])) (fun a (b,c,d)=>.ret [.pv (.slice (List.map Cmd.pv b)),ai c,ai d] [])
def F99(c1:Cmd)(s2:Shape):Option Bool:=
 (F144 c1.name_).bind fun r4=>
 (bif (!(s2.name_==r4)||(!s2.name_&&!decide (c1.name_=[])))then
  some false
 else
  some ((s2.words_||decide ((c1.words_.length:Int)=0))&&(s2.redirs_||decide ((c1.redirs_.length:Int)=0))))
def S99(F:Cmd→Shape→Option (Bool)):Spec:=mkS 99 (α:=Cmd×Shape) (ρ:=Bool) (fun(a,b)=>F a b) (fun(a,b)=>([.pv (.agg [.int .i64 a.kind_,.int .i64 a.at_,.str a.name_,.slice (List.map Word.pv a.words_),.slice (List.map Redir.pv a.redirs_),.slice (List.map Cmd.pv a.kids_)]),.pv (.agg [.bool b.name_,.bool b.words_,.bool b.redirs_])],[])) (fun(a,b) c=>.ret [ab c] [])
def F64(w98:Y4)(c1:Cmd):Option Bool:=
 (bif !decide (c1.kind_=14)then
  (w98 c1).bind fun r4=>
  some r4
 else
  (F99 c1 (Shape.mk false false false)).bind fun r7=>
  (Q0d (r7&&decide ((c1.kids_.length:Int)=1)) (lidx c1.kids_ 0)).bind fun u10=>
  (Q0d (r7&&decide ((c1.kids_.length:Int)=1)) (w98 u10)).bind fun r13=>
  some ((r7&&decide ((c1.kids_.length:Int)=1))&&r13))
def S64:=SQ14 64
def F63(w98:Y4)(c1:Cmd):Option Bool:=
 (F64 w98 c1).bind fun r3=>
 some (!r3)
def S63:=SQ14 63
def Z8v(s1:List Cmd)(w98:Y4)(again4:Int→Option Int):Int→Option Int:=fun i3=>
 (bif decide (i3<(s1.length:Int))then
  (lidx s1 i3).bind fun u8=>
  (F63 w98 u8).bind fun r11=>
  (bif r11 then
   some i3
  else
   again4 (IntKind.wrap .i64 (i3+1)))
 else
  some (-1))
def J1p(w98:Y4)(s1:List Cmd):Option Int:=
 iter (Z8v s1 w98) BIG 0
def X5l(F:(List Cmd)→Option (Int)):Spec:=mkS 85 (α:=(List Cmd)) (ρ:=Int) F (fun a=>([.pv (.slice (List.map Cmd.pv a)),.fn 63 []],[])) (fun a b=>.ret [ai b] [])
def J1v(w98:Y4)(s1:List Cmd):Option Bool:=
 (J1p w98 s1).bind fun r3=>
 some (decide (0≤r3))
def X5n(F:(List Cmd)→Option (Bool)):Spec:=mkS 49 (α:=(List Cmd)) (ρ:=Bool) F (fun a=>([.pv (.slice (List.map Cmd.pv a)),.fn 63 []],[])) (fun a b=>.ret [ab b] [])
def F29(w98:Y4)(l1:List Cmd):Option Bool:=
 (J1v w98 l1).bind fun r3=>
 some (!r3)
def S29:=SQ0 29
def F183(w182:Y4)(k1:Cmd):Option Bool:=
 (w182 k1).bind fun r3=>
 some (!r3)
def S183:=SQ14 183
def Z8u(s1:List Cmd)(w182:Y4)(again4:Int→Option Int):Int→Option Int:=fun i3=>
 (bif decide (i3<(s1.length:Int))then
  (lidx s1 i3).bind fun u8=>
  (F183 w182 u8).bind fun r11=>
  (bif r11 then
   some i3
  else
   again4 (IntKind.wrap .i64 (i3+1)))
 else
  some (-1))
def J3u(w182:Y4)(s1:List Cmd):Option Int:=
 iter (Z8u s1 w182) BIG 0
def K0r(F:(List Cmd)→Option (Int)):Spec:=mkS 85 (α:=(List Cmd)) (ρ:=Int) F (fun a=>([.pv (.slice (List.map Cmd.pv a)),.fn 183 []],[])) (fun a b=>.ret [ai b] [])
def J1u(w182:Y4)(s1:List Cmd):Option Bool:=
 (J3u w182 s1).bind fun r3=>
 some (decide (0≤r3))
def K0t(F:(List Cmd)→Option (Bool)):Spec:=mkS 49 (α:=(List Cmd)) (ρ:=Bool) F (fun a=>([.pv (.slice (List.map Cmd.pv a)),.fn 183 []],[])) (fun a b=>.ret [ab b] [])
def F143(w182:Y4)(c1:Cmd):Option Bool:=
 (bif !decide (c1.kind_=3)then
  (w182 c1).bind fun r4=>
  some r4
 else
  (F99 c1 (Shape.mk false false false)).bind fun r7=>
  (bif (r7&&decide (2≤(c1.kids_.length:Int)))then
   (J1u w182 c1.kids_).bind fun r10=>
   some (!r10)
  else
   some false))
def S143:=SQ14 143
def F98(w98:Y4)(w182:Y4)(c1:Cmd):Option Bool:=
 (bif (!decide (c1.kind_=5)&&!decide (c1.kind_=6))then
  (F143 w182 c1).bind fun r4=>
  some r4
 else
  (F99 c1 (Shape.mk false false false)).bind fun r7=>
  (Q0d (r7&&decide ((c1.kids_.length:Int)=2)) (lidx c1.kids_ 0)).bind fun u10=>
  (Q0d (r7&&decide ((c1.kids_.length:Int)=2)) (w98 u10)).bind fun r13=>
  (Q0d ((r7&&decide ((c1.kids_.length:Int)=2))&&r13) (lidx c1.kids_ 1)).bind fun u16=>
  (Q0d ((r7&&decide ((c1.kids_.length:Int)=2))&&r13) (F143 w182 u16)).bind fun r19=>
  some (((r7&&decide ((c1.kids_.length:Int)=2))&&r13)&&r19))
def S98:=SQ14 98
def F261(w260:Y3)(x1:Word):Option Bool:=
 (w260 x1).bind fun r3=>
 some (!r3)
def SQ15(n:FuncId)(F:Word→Option (Bool)):Spec:=mkS n (α:=Word) (ρ:=Bool) F (fun a=>([.pv (.agg [.int .i64 a.kind_,.str a.text_,.str a.quoted_,.slice (List.map Word.pv a.words_),.slice (List.map Cmd.pv a.cmd_)])],[])) (fun a b=>.ret [ab b] [])
def S261:=SQ15 261
def Z5c(s1:List Word)(w260:Y3)(again4:Int→Option Int):Int→Option Int:=fun i3=>
 (bif decide (i3<(s1.length:Int))then
  (lidx s1 i3).bind fun u8=>
  (F261 w260 u8).bind fun r11=>
  (bif r11 then
   some i3
  else
   again4 (IntKind.wrap .i64 (i3+1)))
 else
  some (-1))
def Z5d(w260:Y3)(s1:List Word):Option Int:=
 iter (Z5c s1 w260) BIG 0
def X2h(F:(List Word)→Option (Int)):Spec:=mkS 259 (α:=(List Word)) (ρ:=Int) F (fun a=>([.pv (.slice (List.map Word.pv a)),.fn 261 []],[])) (fun a b=>.ret [ai b] [])
def Z2g(w260:Y3)(s1:List Word):Option Bool:=
 (Z5d w260 s1).bind fun r3=>
 some (decide (0≤r3))
def X2i(F:(List Word)→Option (Bool)):Spec:=mkS 232 (α:=(List Word)) (ρ:=Bool) F (fun a=>([.pv (.slice (List.map Word.pv a)),.fn 261 []],[])) (fun a b=>.ret [ab b] [])
def F234(w260:Y3)(w1:Word):Option Bool:=
 (bif !decide (w1.kind_=4)then
  (w260 w1).bind fun r4=>
  some r4
 else
  (bif (((decide (w1.text_=[])&&decide (w1.quoted_=[]))&&decide ((w1.cmd_.length:Int)=0))&&decide (2≤(w1.words_.length:Int)))then
   (Z2g w260 w1.words_).bind fun r7=>
   some (!r7)
  else
   some false))
def S234:=SQ15 234
def F233(w260:Y3)(w1:Word):Option Bool:=
 (F234 w260 w1).bind fun r3=>
 some (!r3)
def S233:=SQ15 233
def J3y(s1:List Word)(w260:Y3)(again4:Int→Option Int):Int→Option Int:=fun i3=>
 (bif decide (i3<(s1.length:Int))then
  (lidx s1 i3).bind fun u8=>
  (F233 w260 u8).bind fun r11=>
  (bif r11 then
   some i3
  else
   again4 (IntKind.wrap .i64 (i3+1)))
 else
  some (-1))
def F259(w260:Y3)(s1:List Word):Option Int:=
 iter (J3y s1 w260) BIG 0
def S259(F:(List Word)→Option (Int)):Spec:=mkS 259 (α:=(List Word)) (ρ:=Int) F (fun a=>([.pv (.slice (List.map Word.pv a)),.fn 233 []],[])) (fun a b=>.ret [ai b] [])
def F232(w260:Y3)(s1:List Word):Option Bool:=
 (F259 w260 s1).bind fun r3=>
 some (decide (0≤r3))
def S232(F:(List Word)→Option (Bool)):Spec:=mkS 232 (α:=(List Word)) (ρ:=Bool) F (fun a=>([.pv (.slice (List.map Word.pv a)),.fn 233 []],[])) (fun a b=>.ret [ab b] [])
def F207(w260:Y3)(l1:List Word):Option Bool:=
 (F232 w260 l1).bind fun r3=>
 some (!r3)
def SQ16(n:FuncId)(F:(List Word)→Option (Bool)):Spec:=mkS n (α:=(List Word)) (ρ:=Bool) F (fun a=>([.pv (.slice (List.map Word.pv a))],[])) (fun a b=>.ret [ab b] [])
def S207:=SQ16 207
def F208(w182:Y4)(l1:List Cmd):Option Bool:=
 (Q0d (decide ((l1.length:Int)=1)) (lidx l1 0)).bind fun u3=>
 (Q0d (decide ((l1.length:Int)=1)) (w182 u3)).bind fun r6=>
 some (decide ((l1.length:Int)=1)&&r6)
def S208:=SQ0 208
def F108(s1:Str)(suffix2:Str):Option Bool:=
 (F155 s1 suffix2).bind fun r4=>
 some r4
def S108:=SQ1 108
def Z0u(w1:Word)(again5:Int→Option Bool):Int→Option Bool:=fun i4=>
 (bif decide (i4<(w1.quoted_.length:Int))then
  (sidx w1.quoted_ i4).bind fun c9=>
  (bif (!decide (c9=48)&&!decide (c9=49))then
   some false
  else
   again5 (IntKind.wrap .i64 (i4+1)))
 else
  some true)
def F263(w1:Word):Option Bool:=
 (bif !decide ((w1.text_.length:Int)=(w1.quoted_.length:Int))then
  some false
 else
  iter (Z0u w1) BIG 0)
def S263:=SQ15 263
def F264(w1:Word):Option Bool:=
 some ((((decide (w1.kind_=0)&&decide (w1.text_=[]))&&decide (w1.quoted_=[]))&&decide ((w1.words_.length:Int)=0))&&decide ((w1.cmd_.length:Int)=0))
def S264:=SQ15 264
def F237(w260:Y3)(r1:Redir):Option Bool:=
 (bif (((((decide (r1.fd_<0)||decide (64≤r1.fd_))||decide (r1.from_<0))||decide (64≤r1.from_))||(!decide (r1.kind_=4)&&r1.raw_))||(!decide (r1.kind_=5)&&!decide (r1.from_=0)))then
  some false
 else
  (bif (bif decide (r1.kind_=1)then decide (r1.kind_=1)else(bif decide (r1.kind_=2)then decide (r1.kind_=2)else decide (r1.kind_=3)))then
   (F234 w260 r1.word_).bind fun r7=>
   some r7
  else
   (bif decide (r1.kind_=4)then
    (Q0d (!(decide (r1.word_.text_=[]))) (F108 r1.word_.text_ [10])).bind fun r11=>
    (Q0d (((decide (r1.fd_=0)&&decide (r1.word_.kind_=1))&&decide ((r1.word_.words_.length:Int)=0))&&decide ((r1.word_.cmd_.length:Int)=0)) (F263 r1.word_)).bind fun r14=>
    (Q0d ((((decide (r1.fd_=0)&&decide (r1.word_.kind_=1))&&decide ((r1.word_.words_.length:Int)=0))&&decide ((r1.word_.cmd_.length:Int)=0))&&r14) (L_IndexByte r1.word_.quoted_ 49)).bind fun n17=>
    some ((((((decide (r1.fd_=0)&&decide (r1.word_.kind_=1))&&decide ((r1.word_.words_.length:Int)=0))&&decide ((r1.word_.cmd_.length:Int)=0))&&r14)&&decide (n17<0))&&(decide (r1.word_.text_=[])||r11))
   else
    (bif (bif decide (r1.kind_=5)then decide (r1.kind_=5)else decide (r1.kind_=6))then
     (F264 r1.word_).bind fun r22=>
     some r22
    else
     some false))))
def S237:=SQ11 237
def F236(w260:Y3)(r1:Redir):Option Bool:=
 (F237 w260 r1).bind fun r3=>
 some (!r3)
def S236:=SQ11 236
def J3x(s1:List Redir)(w260:Y3)(again4:Int→Option Int):Int→Option Int:=fun i3=>
 (bif decide (i3<(s1.length:Int))then
  (lidx s1 i3).bind fun u8=>
  (F236 w260 u8).bind fun r11=>
  (bif r11 then
   some i3
  else
   again4 (IntKind.wrap .i64 (i3+1)))
 else
  some (-1))
def F262(w260:Y3)(s1:List Redir):Option Int:=
 iter (J3x s1 w260) BIG 0
def S262(F:(List Redir)→Option (Int)):Spec:=mkS 262 (α:=(List Redir)) (ρ:=Int) F (fun a=>([.pv (.slice (List.map Redir.pv a)),.fn 236 []],[])) (fun a b=>.ret [ai b] [])
def F235(w260:Y3)(s1:List Redir):Option Bool:=
 (F262 w260 s1).bind fun r3=>
 some (decide (0≤r3))
def S235(F:(List Redir)→Option (Bool)):Spec:=mkS 235 (α:=(List Redir)) (ρ:=Bool) F (fun a=>([.pv (.slice (List.map Redir.pv a)),.fn 236 []],[])) (fun a b=>.ret [ab b] [])
def F209(w260:Y3)(l1:List Redir):Option Bool:=
 (F235 w260 l1).bind fun r3=>
 some (!r3)
def S209(F:(List Redir)→Option (Bool)):Spec:=mkS 209 (α:=(List Redir)) (ρ:=Bool) F (fun a=>([.pv (.slice (List.map Redir.pv a))],[])) (fun a b=>.ret [ab b] [])
def F210(w98:Y4)(c1:Cmd):Option Bool:=
 (Q0d (decide (c1.kind_=12)) (F99 c1 (Shape.mk false false false))).bind fun r3=>
 (Q0d (decide (c1.kind_=12)&&r3) (F29 w98 c1.kids_)).bind fun r6=>
 some ((decide (c1.kind_=12)&&r3)&&r6)
def S210:=SQ14 210
def F212(w98:Y4)(w260:Y3)(c1:Cmd):Option Bool:=
 (Q0d (decide (c1.kind_=18)) (F99 c1 (Shape.mk false true false))).bind fun r3=>
 (Q0d ((decide (c1.kind_=18)&&r3)&&decide (1≤(c1.words_.length:Int))) (F207 w260 c1.words_)).bind fun r6=>
 (Q0d (((decide (c1.kind_=18)&&r3)&&decide (1≤(c1.words_.length:Int)))&&r6) (F29 w98 c1.kids_)).bind fun r9=>
 some ((((decide (c1.kind_=18)&&r3)&&decide (1≤(c1.words_.length:Int)))&&r6)&&r9)
def S212:=SQ14 212
def F211(w98:Y4)(w260:Y3)(k1:Cmd):Option Bool:=
 (F212 w98 w260 k1).bind fun r3=>
 some (!r3)
def S211:=SQ14 211
def Z8t(s1:List Cmd)(w98:Y4)(w260:Y3)(again4:Int→Option Int):Int→Option Int:=fun i3=>
 (bif decide (i3<(s1.length:Int))then
  (lidx s1 i3).bind fun u8=>
  (F211 w98 w260 u8).bind fun r11=>
  (bif r11 then
   some i3
  else
   again4 (IntKind.wrap .i64 (i3+1)))
 else
  some (-1))
def J3t(w98:Y4)(w260:Y3)(s1:List Cmd):Option Int:=
 iter (Z8t s1 w98 w260) BIG 0
def K0q(F:(List Cmd)→Option (Int)):Spec:=mkS 85 (α:=(List Cmd)) (ρ:=Int) F (fun a=>([.pv (.slice (List.map Cmd.pv a)),.fn 211 []],[])) (fun a b=>.ret [ai b] [])
def J1t(w98:Y4)(w260:Y3)(s1:List Cmd):Option Bool:=
 (J3t w98 w260 s1).bind fun r3=>
 some (decide (0≤r3))
def K0s(F:(List Cmd)→Option (Bool)):Spec:=mkS 49 (α:=(List Cmd)) (ρ:=Bool) F (fun a=>([.pv (.slice (List.map Cmd.pv a)),.fn 211 []],[])) (fun a b=>.ret [ab b] [])
def Z0v:(Int×Str×Str×(List Word)×(List Cmd))→Option Bool:=fun(x14,x15,x16,x17,x18)=>
 (Q0d (decide (x14=1)) (L_IndexByte x16 49)).bind fun n19=>
 (Q0d (decide (x14=1)&&decide (n19<0)) (F134 x15)).bind fun r22=>
 some ((!((decide (x14=1)&&decide (n19<0))&&r22)||decide (x15=[110,111,116]))||decide (x15=[105,110]))
def F213(w260:Y3)(c1:Cmd):Option Bool:=
 (Q0d (!(decide (IntKind.wrap .i64 ((c1.words_.length:Int)+(c1.redirs_.length:Int))=0))) (F207 w260 c1.words_)).bind fun r3=>
 (Q0d (!(decide (IntKind.wrap .i64 ((c1.words_.length:Int)+(c1.redirs_.length:Int))=0)||!r3)) (F209 w260 c1.redirs_)).bind fun r6=>
 (bif ((decide (IntKind.wrap .i64 ((c1.words_.length:Int)+(c1.redirs_.length:Int))=0)||!r3)||!r6)then
  some false
 else
  (bif decide ((c1.words_.length:Int)=0)then
   some true
  else
   (lidx c1.words_ 0).bind fun u11=>
   (bif decide (u11.kind_=4)then
    (lidx u11.words_ 0).bind fun u26=>
    Z0v (u26.kind_,u26.text_,u26.quoted_,u26.words_,u26.cmd_)
   else
    Z0v (u11.kind_,u11.text_,u11.quoted_,u11.words_,u11.cmd_))))
def S213:=SQ14 213
def F182(w98:Y4)(w182:Y4)(w260:Y3)(c1:Cmd):Option Bool:=
 (bif decide (c1.kind_=2)then
  (F99 c1 (Shape.mk true true false)).bind fun r4=>
  (Q0d (r4&&decide ((c1.words_.length:Int)=1)) (F207 w260 c1.words_)).bind fun r7=>
  (Q0d (((r4&&decide ((c1.words_.length:Int)=1))&&r7)&&!(decide ((c1.kids_.length:Int)=0))) (F208 w182 c1.kids_)).bind fun r10=>
  some (((r4&&decide ((c1.words_.length:Int)=1))&&r7)&&(decide ((c1.kids_.length:Int)=0)||r10))
 else
  (bif (bif decide (c1.kind_=7)then decide (c1.kind_=7)else(bif decide (c1.kind_=13)then decide (c1.kind_=13)else decide (c1.kind_=9)))then
   (F99 c1 (Shape.mk false false false)).bind fun r16=>
   (Q0d r16 (F208 w182 c1.kids_)).bind fun r19=>
   some (r16&&r19)
  else
   (bif decide (c1.kind_=12)then
    (F99 c1 (Shape.mk false false true)).bind fun r23=>
    (Q0d r23 (F29 w98 c1.kids_)).bind fun r26=>
    (Q0d (r23&&r26) (F209 w260 c1.redirs_)).bind fun r29=>
    some ((r23&&r26)&&r29)
   else
    (bif (bif decide (c1.kind_=8)then decide (c1.kind_=8)else decide (c1.kind_=11))then
     (F99 c1 (Shape.mk false false false)).bind fun r34=>
     (Q0d (r34&&decide ((c1.kids_.length:Int)=2)) (lidx c1.kids_ 0)).bind fun u37=>
     (Q0d (r34&&decide ((c1.kids_.length:Int)=2)) (F210 w98 u37)).bind fun r40=>
     (Q0d ((r34&&decide ((c1.kids_.length:Int)=2))&&r40) (lidx c1.kids_ 1)).bind fun u43=>
     (Q0d ((r34&&decide ((c1.kids_.length:Int)=2))&&r40) (w182 u43)).bind fun r46=>
     some (((r34&&decide ((c1.kids_.length:Int)=2))&&r40)&&r46)
    else
     (bif decide (c1.kind_=10)then
      (F99 c1 (Shape.mk true true false)).bind fun r50=>
      (Q0d r50 (F207 w260 c1.words_)).bind fun r53=>
      (Q0d (r50&&r53) (F208 w182 c1.kids_)).bind fun r56=>
      some ((r50&&r53)&&r56)
     else
      (bif decide (c1.kind_=17)then
       (F99 c1 (Shape.mk false true false)).bind fun r60=>
       (Q0d (r60&&decide ((c1.words_.length:Int)=1)) (F207 w260 c1.words_)).bind fun r63=>
       (bif ((r60&&decide ((c1.words_.length:Int)=1))&&r63)then
        (J1t w98 w260 c1.kids_).bind fun r66=>
        some (!r66)
       else
        some false)
      else
       (bif decide (c1.kind_=15)then
        (F99 c1 (Shape.mk true false false)).bind fun r71=>
        (Q0d r71 (F29 w98 c1.kids_)).bind fun r74=>
        some (r71&&r74)
       else
        (bif decide (c1.kind_=16)then
         (F99 c1 (Shape.mk false true false)).bind fun r78=>
         (Q0d ((r78&&decide (1≤(c1.words_.length:Int)))&&decide ((c1.kids_.length:Int)=0)) (F207 w260 c1.words_)).bind fun r81=>
         some (((r78&&decide (1≤(c1.words_.length:Int)))&&decide ((c1.kids_.length:Int)=0))&&r81)
        else
         (bif decide (c1.kind_=1)then
          (F99 c1 (Shape.mk false true true)).bind fun r85=>
          (Q0d (r85&&decide ((c1.kids_.length:Int)=0)) (F213 w260 c1)).bind fun r88=>
          some ((r85&&decide ((c1.kids_.length:Int)=0))&&r88)
         else
          some false)))))))))
def S182:=SQ14 182
def Q4c(w1:Word)(again8:Int→Option Bool):Int→Option Bool:=fun i7=>
 (bif decide (i7<(w1.text_.length:Int))then
  (sidx w1.quoted_ i7).bind fun c12=>
  (Q0d (decide (c12=48)) (sidx w1.text_ i7)).bind fun c15=>
  (Q0d (decide (c12=48)) (L_IndexByte [32,9,10,59,38,124,40,41,123,125,60,62,61,94,96,36,39] c15)).bind fun n18=>
  (Q0d (!(decide (c12=48)&&decide (0≤n18))&&(decide (c12=48)&&decide (i7=0))) (L_IndexByte [35,33,64] c15)).bind fun n21=>
  (bif ((decide (c12=48)&&decide (0≤n18))||((decide (c12=48)&&decide (i7=0))&&decide (0≤n21)))then
   some false
  else
   again8 (IntKind.wrap .i64 (i7+1)))
 else
  some true)
def F278(w1:Word):Option Bool:=
 (F263 w1).bind fun r3=>
 (bif !r3 then
  some false
 else
  iter (Q4c w1) BIG 0)
def S278:=SQ15 278
def F260(w98:Y4)(w260:Y3)(w1:Word):Option Bool:=
 (F144 w1.text_).bind fun r3=>
 (bif decide (w1.kind_=1)then
  (Q0d (decide ((w1.words_.length:Int)=0)&&decide ((w1.cmd_.length:Int)=0)) (F278 w1)).bind fun r7=>
  some ((decide ((w1.words_.length:Int)=0)&&decide ((w1.cmd_.length:Int)=0))&&r7)
 else
  (bif (bif decide (w1.kind_=2)then decide (w1.kind_=2)else decide (w1.kind_=3))then
   some (((r3&&decide (w1.quoted_=[]))&&decide ((w1.cmd_.length:Int)=0))&&decide ((w1.words_.length:Int)=0))
  else
   (bif decide (w1.kind_=7)then
    (Q0d (((r3&&decide (w1.quoted_=[]))&&decide ((w1.cmd_.length:Int)=0))&&decide (1≤(w1.words_.length:Int))) (F207 w260 w1.words_)).bind fun r13=>
    some ((((r3&&decide (w1.quoted_=[]))&&decide ((w1.cmd_.length:Int)=0))&&decide (1≤(w1.words_.length:Int)))&&r13)
   else
    (bif decide (w1.kind_=5)then
     (Q0d ((decide (w1.text_=[])&&decide (w1.quoted_=[]))&&decide ((w1.cmd_.length:Int)=0)) (F207 w260 w1.words_)).bind fun r17=>
     some (((decide (w1.text_=[])&&decide (w1.quoted_=[]))&&decide ((w1.cmd_.length:Int)=0))&&r17)
    else
     (bif decide (w1.kind_=6)then
      (Q0d ((decide (w1.text_=[])&&decide (w1.quoted_=[]))&&decide ((w1.words_.length:Int)=0)) (F29 w98 w1.cmd_)).bind fun r21=>
      some (((decide (w1.text_=[])&&decide (w1.quoted_=[]))&&decide ((w1.words_.length:Int)=0))&&r21)
     else
      some false)))))
def S260:=SQ15 260
mutual
def K98:Nat→Cmd→Option (Bool)
 | 0=>fun _=>none
 | n+1=>F98 (K98 n) (K182 n)
def K182:Nat→Cmd→Option (Bool)
 | 0=>fun _=>none
 | n+1=>F182 (K98 n) (K182 n) (K260 n)
def K260:Nat→Word→Option (Bool)
 | 0=>fun _=>none
 | n+1=>F260 (K98 n) (K260 n)
end
def F13(l1:List Cmd):Option Bool:=
 (F21 l1).bind fun r3=>
 (Q0d r3 (F29 (K98 BIG) l1)).bind fun r6=>
 some (r3&&r6)
def S13:=SQ0 13
def F36(b1:Str)(l2:List Redir):Option Str:=some b1
def S36(F:Str→(List Redir)→Option (Str)):Spec:=mkS 36 (α:=Str×(List Redir)) (ρ:=Str) (fun(a,b)=>F a b) (fun(a,b)=>([.ref 0 0],[.prn 5 a 51 9 (List.map Redir.pv b)])) (fun(a,b) c=>.ret [as_ c] [.prn 5 a 51 9 (List.map Redir.pv b)])
def F163(b1:Str)(l2:List Redir):Option Unit:=some ()
def S163(F:Str→(List Redir)→Option (Unit)):Spec:=mkS 163 (α:=Str×(List Redir)) (ρ:=Unit) (fun(a,b)=>F a b) (fun(a,b)=>([.ref 0 0],[.prn 5 a 51 9 (List.map Redir.pv b)])) (fun(a,b) (_:Unit)=>.ret [] [.prn 5 a 51 9 (List.map Redir.pv b)])
def F123(s1:Str)(b2:Str)(l3:List Redir):Option (Int×Str):=
 (F163 b2 l3).bind fun _=>
 (apS b2 s1).bind fun out9=>
 some ((s1.length:Int),out9)
def S123(F:Str→Str→(List Redir)→Option (Int×Str)):Spec:=mkS 123 (α:=Str×Str×(List Redir)) (ρ:=Int×Str) (fun(a,b,c)=>F a b c) (fun(a,b,c)=>([.ref 0 0,as_ a],[.prn 5 b 51 9 (List.map Redir.pv c)])) (fun(a,b,c) (d,e)=>.ret [ai d,.pv (.nil)] [.prn 5 e 51 9 (List.map Redir.pv c)])
def J4l(texts1:List Str)(l3:List Redir)(again7:(Int×Str)→Option Str):(Int×Str)→Option Str:=fun(i5,l6)=>
 (bif decide (i5<(texts1.length:Int))then
  (lidx texts1 i5).bind fun w11=>
  (F123 w11 l6 l3).bind fun(r14,o15)=>
  again7 (IntKind.wrap .i64 (i5+1),o15)
 else
  some l6)
def F103(texts1:List Str)(b2:Str)(l3:List Redir):Option Str:=
 iter (J4l texts1 l3) BIG (0,b2)
def S103(F:(List Str)→Str→(List Redir)→Option (Str)):Spec:=mkS 103 (α:=(List Str)×Str×(List Redir)) (ρ:=Str) (fun(a,b,c)=>F a b c) (fun(a,b,c)=>([.ref 0 0,.pv (.slice (List.map PV.str a))],[.prn 5 b 51 9 (List.map Redir.pv c)])) (fun(a,b,c) d=>.ret [] [.prn 5 d 51 9 (List.map Redir.pv c)])
def Z1l(l3:List Str)(again7:Str→Option Str):Str→Option Str:=fun s6=>
 (L_Contains l3 s6).bind fun ok10=>
 (bif ok10 then
  (catO s6 [69]).bind fun s14=>
  again7 s14
 else
  some s6)
def F109(doc1:Str):Option Str:=
 (L_Split doc1 [10]).bind fun l3=>
 iter (Z1l l3) BIG [69]
def SQ17(n:FuncId)(F:Str→Option (Str)):Spec:=mkS n (α:=Str) (ρ:=Str) F (fun a=>([as_ a],[])) (fun a b=>.ret [as_ b] [])
def S109:=SQ17 109
def J6o(l2:List Redir)(again12:(Int×Str)→Option (Str×(List Redir))):(Int×Str)→Option (Str×(List Redir)):=fun(i10,l11)=>
 (bif decide (i10<(l2.length:Int))then
  (lidx l2 i10).bind fun u16=>
  (F109 u16.word_.text_).bind fun r19=>
  (F103 [u16.word_.text_,r19,[10]] l11 l2).bind fun o22=>
  again12 (IntKind.wrap .i64 (i10+1),o22)
 else
  some (l11,([]:List Redir)))
def Z6w(l2:List Redir):Str→Option (Str×(List Redir)):=fun l5=>
 (F103 [[10]] l5 l2).bind fun o6=>
 iter (J6o l2) BIG (0,o6)
def F67(b1:Str)(l2:List Redir):Option (Str×(List Redir)):=
 (F36 b1 l2).bind fun r27=>
 (F108 r27 [92]).bind fun r31=>
 (bif r31 then
  (F103 [[32]] b1 l2).bind fun o35=>
  Z6w l2 o35
 else
  Z6w l2 b1)
def S67(F:Str→(List Redir)→Option (Str×(List Redir))):Spec:=mkS 67 (α:=Str×(List Redir)) (ρ:=Str×(List Redir)) (fun(a,b)=>F a b) (fun(a,b)=>([.ref 0 0],[.prn 5 a 51 9 (List.map Redir.pv b)])) (fun(a,b) (c,d)=>.ret [] [.prn 5 c 51 9 (List.map Redir.pv d)])
def J6t(l1:List Cmd)(w66:Y5)(again9:(Int×Str×(List Redir))→Option (Str×(List Redir))):(Int×Str×(List Redir))→Option (Str×(List Redir)):=fun(i6,l7,m8)=>
 (bif decide (i6<(l1.length:Int))then
  (lidx l1 i6).bind fun u13=>
  (w66 u13 l7 m8).bind fun(r16,r17)=>
  (F67 r16 r17).bind fun(o21,m22)=>
  again9 (IntKind.wrap .i64 (i6+1),o21,m22)
 else
  some (l7,m8))
def F35(w66:Y5)(l1:List Cmd)(b2:Str)(l3:List Redir):Option (Str×(List Redir)):=
 iter (J6t l1 w66) BIG (0,b2,l3)
def S35(F:(List Cmd)→Str→(List Redir)→Option (Str×(List Redir))):Spec:=mkS 35 (α:=(List Cmd)×Str×(List Redir)) (ρ:=Str×(List Redir)) (fun(a,b,c)=>F a b c) (fun(a,b,c)=>([.ref 0 0,.pv (.slice (List.map Cmd.pv a))],[.prn 5 b 51 9 (List.map Redir.pv c)])) (fun(a,b,c) (d,e)=>.ret [] [.prn 5 d 51 9 (List.map Redir.pv e)])
def Z5g(l1:List Cmd)(between2:Str)(w66:Y5)(again10:(Int×Str×(List Redir))→Option (Str×(List Redir))):(Int×Str×(List Redir))→Option (Str×(List Redir)):=fun(i7,l8,m9)=>
 (bif decide (i7<(l1.length:Int))then
  (lidx l1 i7).bind fun u14=>
  (bif decide (0<i7)then
   (F103 [between2] l8 m9).bind fun o18=>
   (w66 u14 o18 m9).bind fun(r22,r23)=>
   again10 (IntKind.wrap .i64 (i7+1),r22,r23)
  else
   (w66 u14 l8 m9).bind fun(r27,r28)=>
   again10 (IntKind.wrap .i64 (i7+1),r27,r28))
 else
  some (l8,m9))
def F102(w66:Y5)(l1:List Cmd)(between2:Str)(b3:Str)(l4:List Redir):Option (Str×(List Redir)):=
 iter (Z5g l1 between2 w66) BIG (0,b3,l4)
def S102(F:(List Cmd)→Str→Str→(List Redir)→Option (Str×(List Redir))):Spec:=mkS 102 (α:=(List Cmd)×Str×Str×(List Redir)) (ρ:=Str×(List Redir)) (fun(a,b,c,d)=>F a b c d) (fun(a,b,c,d)=>([.ref 0 0,.pv (.slice (List.map Cmd.pv a)),as_ b],[.prn 5 c 51 9 (List.map Redir.pv d)])) (fun(a,b,c,d) (e,f)=>.ret [] [.prn 5 e 51 9 (List.map Redir.pv f)])
def F104(w66:Y5)(open1:Str)(l2:List Cmd)(closing3:Str)(b4:Str)(l5:List Redir):Option (Str×(List Redir)):=
 (F103 [open1] b4 l5).bind fun o8=>
 (F67 o8 l5).bind fun(o12,m13)=>
 (F35 w66 l2 o12 m13).bind fun(o17,m18)=>
 (F103 [closing3] o17 m18).bind fun o22=>
 some (o22,m18)
def S104(F:Str→(List Cmd)→Str→Str→(List Redir)→Option (Str×(List Redir))):Spec:=mkS 104 (α:=Str×(List Cmd)×Str×Str×(List Redir)) (ρ:=Str×(List Redir)) (fun(a,b,c,d,e)=>F a b c d e) (fun(a,b,c,d,e)=>([.ref 0 0,as_ a,.pv (.slice (List.map Cmd.pv b)),as_ c],[.prn 5 d 51 9 (List.map Redir.pv e)])) (fun(a,b,c,d,e) (f,g)=>.ret [] [.prn 5 f 51 9 (List.map Redir.pv g)])
def F188(fd1:Int)(usual2:Int):Option Str:=
 (bif decide (fd1=usual2)then
  some []
 else
  (L_Itoa fd1).bind fun s5=>
  (catO [91] s5).bind fun s8=>
  (catO s8 [93]).bind fun s11=>
  some s11)
def S188(F:Int→Int→Option (Str)):Spec:=mkS 188 (α:=Int×Int) (ρ:=Str) (fun(a,b)=>F a b) (fun(a,b)=>([ai a,ai b],[])) (fun(a,b) c=>.ret [as_ c] [])
def F151(w152:Y2)(r1:Redir)(b2:Str)(l3:List Redir):Option (Str×(List Redir)):=
 (bif decide (r1.kind_=1)then
  (F188 r1.fd_ 0).bind fun r7=>
  (F103 [[60],r7,[32]] b2 l3).bind fun o10=>
  (w152 r1.word_ o10 l3).bind fun(r14,r15)=>
  some (r14,r15)
 else
  (bif decide (r1.kind_=2)then
   (F188 r1.fd_ 1).bind fun r20=>
   (F103 [[62],r20,[32]] b2 l3).bind fun o23=>
   (w152 r1.word_ o23 l3).bind fun(r27,r28)=>
   some (r27,r28)
  else
   (bif decide (r1.kind_=3)then
    (F188 r1.fd_ 1).bind fun r33=>
    (F103 [[62,62],r33,[32]] b2 l3).bind fun o36=>
    (w152 r1.word_ o36 l3).bind fun(r40,r41)=>
    some (r40,r41)
   else
    (bif decide (r1.kind_=5)then
     (L_Itoa r1.fd_).bind fun s46=>
     (L_Itoa r1.from_).bind fun s49=>
     (F103 [[62,91],s46,[61],s49,[93]] b2 l3).bind fun o52=>
     some (o52,l3)
    else
     (bif decide (r1.kind_=6)then
      (L_Itoa r1.fd_).bind fun s57=>
      (F103 [[62,91],s57,[61,93]] b2 l3).bind fun o60=>
      some (o60,l3)
     else
      (bif decide (r1.kind_=4)then
       (appO 120 l3 [r1]).bind fun out65=>
       (F109 r1.word_.text_).bind fun r69=>
       (F103 [[60,60],(bif r1.raw_ then[39]else[]),r69,(bif r1.raw_ then[39]else[])] b2 out65).bind fun o72=>
       some (o72,out65)
      else
       (w152 r1.word_ b2 l3).bind fun(r76,r77)=>
       some (r76,r77)))))))
def S151(F:Redir→Str→(List Redir)→Option (Str×(List Redir))):Spec:=mkS 151 (α:=Redir×Str×(List Redir)) (ρ:=Str×(List Redir)) (fun(a,b,c)=>F a b c) (fun(a,b,c)=>([.ref 0 0,.pv (.agg [.int .i64 a.kind_,.int .i64 a.fd_,.int .i64 a.from_,.int .i64 a.word_.kind_,.str a.word_.text_,.str a.word_.quoted_,.slice (List.map Word.pv a.word_.words_),.slice (List.map Cmd.pv a.word_.cmd_),.bool a.raw_])],[.prn 5 b 51 9 (List.map Redir.pv c)])) (fun(a,b,c) (d,e)=>.ret [] [.prn 5 d 51 9 (List.map Redir.pv e)])
def Z9k(l1:List Redir)(w152:Y2)(again9:(Int×Str×(List Redir))→Option (Str×(List Redir))):(Int×Str×(List Redir))→Option (Str×(List Redir)):=fun(i6,l7,m8)=>
 (bif decide (i6<(l1.length:Int))then
  (lidx l1 i6).bind fun u13=>
  (F103 [[32]] l7 m8).bind fun o16=>
  (F151 w152 u13 o16 m8).bind fun(o20,m21)=>
  again9 (IntKind.wrap .i64 (i6+1),o20,m21)
 else
  some (l7,m8))
def F105(w152:Y2)(l1:List Redir)(b2:Str)(l3:List Redir):Option (Str×(List Redir)):=
 iter (Z9k l1 w152) BIG (0,b2,l3)
def S105(F:(List Redir)→Str→(List Redir)→Option (Str×(List Redir))):Spec:=mkS 105 (α:=(List Redir)×Str×(List Redir)) (ρ:=Str×(List Redir)) (fun(a,b,c)=>F a b c) (fun(a,b,c)=>([.ref 0 0,.pv (.slice (List.map Redir.pv a))],[.prn 5 b 51 9 (List.map Redir.pv c)])) (fun(a,b,c) (d,e)=>.ret [] [.prn 5 d 51 9 (List.map Redir.pv e)])
def Q7l(c1:Cmd)(w152:Y2)(again9:(Int×Str×(List Redir))→Option (Str×(List Redir))):(Int×Str×(List Redir))→Option (Str×(List Redir)):=fun(i6,l7,m8)=>
 (bif decide (i6<(c1.words_.length:Int))then
  (lidx c1.words_ i6).bind fun u13=>
  (bif decide (0<i6)then
   (F103 [[32]] l7 m8).bind fun o17=>
   (w152 u13 o17 m8).bind fun(r21,r22)=>
   again9 (IntKind.wrap .i64 (i6+1),r21,r22)
  else
   (w152 u13 l7 m8).bind fun(r26,r27)=>
   again9 (IntKind.wrap .i64 (i6+1),r26,r27))
 else
  (bif (decide ((c1.words_.length:Int)=0)&&decide (0<(c1.redirs_.length:Int)))then
   (lidx c1.redirs_ 0).bind fun u32=>
   (F151 w152 u32 l7 m8).bind fun(o35,m36)=>
   (Q3z c1.redirs_ 1 (c1.redirs_.length:Int)).bind fun l40=>
   (F105 w152 l40 o35 m36).bind fun(o43,m44)=>
   some (o43,m44)
  else
   (F105 w152 c1.redirs_ l7 m8).bind fun(o48,m49)=>
   some (o48,m49)))
def F106(w152:Y2)(c1:Cmd)(b2:Str)(l3:List Redir):Option (Str×(List Redir)):=
 iter (Q7l c1 w152) BIG (0,b2,l3)
def SQ18(n:FuncId)(F:Cmd→Str→(List Redir)→Option (Str×(List Redir))):Spec:=mkS n (α:=Cmd×Str×(List Redir)) (ρ:=Str×(List Redir)) (fun(a,b,c)=>F a b c) (fun(a,b,c)=>([.ref 0 0,.pv (.agg [.int .i64 a.kind_,.int .i64 a.at_,.str a.name_,.slice (List.map Word.pv a.words_),.slice (List.map Redir.pv a.redirs_),.slice (List.map Cmd.pv a.kids_)])],[.prn 5 b 51 9 (List.map Redir.pv c)])) (fun(a,b,c) (d,e)=>.ret [] [.prn 5 d 51 9 (List.map Redir.pv e)])
def S106:=SQ18 106
def Z9g(l1:List Word)(w152:Y2)(again9:(Int×Str×(List Redir))→Option (Str×(List Redir))):(Int×Str×(List Redir))→Option (Str×(List Redir)):=fun(i6,l7,m8)=>
 (bif decide (i6<(l1.length:Int))then
  (lidx l1 i6).bind fun u13=>
  (F103 [[32]] l7 m8).bind fun o16=>
  (w152 u13 o16 m8).bind fun(r20,r21)=>
  again9 (IntKind.wrap .i64 (i6+1),r20,r21)
 else
  some (l7,m8))
def F153(w152:Y2)(l1:List Word)(b2:Str)(l3:List Redir):Option (Str×(List Redir)):=
 iter (Z9g l1 w152) BIG (0,b2,l3)
def S153(F:(List Word)→Str→(List Redir)→Option (Str×(List Redir))):Spec:=mkS 153 (α:=(List Word)×Str×(List Redir)) (ρ:=Str×(List Redir)) (fun(a,b,c)=>F a b c) (fun(a,b,c)=>([.ref 0 0,.pv (.slice (List.map Word.pv a))],[.prn 5 b 51 9 (List.map Redir.pv c)])) (fun(a,b,c) (d,e)=>.ret [] [.prn 5 d 51 9 (List.map Redir.pv e)])
def Z5f(c1:Cmd)(w152:Y2)(w66:Y5)(again27:(Int×Str×(List Redir))→Option (Str×(List Redir))):(Int×Str×(List Redir))→Option (Str×(List Redir)):=fun(i24,l25,m26)=>
 (bif decide (i24<(c1.kids_.length:Int))then
  (lidx c1.kids_ i24).bind fun u31=>
  (F103 [[99,97,115,101]] l25 m26).bind fun o34=>
  (F153 w152 u31.words_ o34 m26).bind fun(o38,m39)=>
  (F67 o38 m39).bind fun(o43,m44)=>
  (F35 w66 u31.kids_ o43 m44).bind fun(o48,m49)=>
  again27 (IntKind.wrap .i64 (i24+1),o48,m49)
 else
  (F103 [[125]] l25 m26).bind fun o53=>
  some (o53,m26))
def F154(w66:Y5)(w152:Y2)(c1:Cmd)(b2:Str)(l3:List Redir):Option (Str×(List Redir)):=
 (F103 [[115,119,105,116,99,104]] b2 l3).bind fun o6=>
 (F153 w152 c1.words_ o6 l3).bind fun(o10,m11)=>
 (F103 [[32,123]] o10 m11).bind fun o15=>
 (F67 o15 m11).bind fun(o19,m20)=>
 iter (Z5f c1 w152 w66) BIG (0,o19,m20)
def S154:=SQ18 154
def F107(w66:Y5)(w152:Y2)(c1:Cmd)(b2:Str)(l3:List Redir):Option (Str×(List Redir)):=
 (bif decide (c1.kind_=2)then
  (F103 [c1.name_,[61]] b2 l3).bind fun o7=>
  (lidx c1.words_ 0).bind fun u11=>
  (w152 u11 o7 l3).bind fun(r14,r15)=>
  (bif decide (0<(c1.kids_.length:Int))then
   (F103 [[32]] r14 r15).bind fun o20=>
   (F102 w66 c1.kids_ [] o20 r15).bind fun(o24,m25)=>
   some (o24,m25)
  else
   (F102 w66 c1.kids_ [] r14 r15).bind fun(o29,m30)=>
   some (o29,m30))
 else
  (bif decide (c1.kind_=8)then
   (lidx c1.kids_ 0).bind fun u35=>
   (F104 w66 [105,102,40] u35.kids_ [41,32] b2 l3).bind fun(o38,m39)=>
   (lidx c1.kids_ 1).bind fun u43=>
   (w66 u43 o38 m39).bind fun(r46,r47)=>
   some (r46,r47)
  else
   (bif decide (c1.kind_=11)then
    (lidx c1.kids_ 0).bind fun u52=>
    (F104 w66 [119,104,105,108,101,40] u52.kids_ [41,32] b2 l3).bind fun(o55,m56)=>
    (lidx c1.kids_ 1).bind fun u60=>
    (w66 u60 o55 m56).bind fun(r63,r64)=>
    some (r63,r64)
   else
    (bif decide (c1.kind_=10)then
     (F103 [[102,111,114,40],c1.name_,[32,105,110]] b2 l3).bind fun o69=>
     (F153 w152 c1.words_ o69 l3).bind fun(o73,m74)=>
     (F103 [[41,32]] o73 m74).bind fun o78=>
     (F102 w66 c1.kids_ [] o78 m74).bind fun(o82,m83)=>
     some (o82,m83)
    else
     (bif decide (c1.kind_=17)then
      (F154 w66 w152 c1 b2 l3).bind fun(o88,m89)=>
      some (o88,m89)
     else
      (bif decide (c1.kind_=15)then
       (F103 [[102,110,32],c1.name_] b2 l3).bind fun o94=>
       (bif decide (0<(c1.kids_.length:Int))then
        (F104 w66 [32,123] c1.kids_ [125] o94 l3).bind fun(o99,m100)=>
        some (o99,m100)
       else
        some (o94,l3))
      else
       (bif decide (c1.kind_=16)then
        (F103 [[126]] b2 l3).bind fun o105=>
        (F153 w152 c1.words_ o105 l3).bind fun(o109,m110)=>
        some (o109,m110)
       else
        some (b2,l3))))))))
def S107:=SQ18 107
def F66(w66:Y5)(w152:Y2)(c1:Cmd)(b2:Str)(l3:List Redir):Option (Str×(List Redir)):=
 (bif decide (c1.kind_=14)then
  (F102 w66 c1.kids_ [] b2 l3).bind fun(o7,m8)=>
  (F103 [[32,38]] o7 m8).bind fun o12=>
  some (o12,m8)
 else
  (bif decide (c1.kind_=5)then
   (F102 w66 c1.kids_ [32,38,38,32] b2 l3).bind fun(o17,m18)=>
   some (o17,m18)
  else
   (bif decide (c1.kind_=6)then
    (F102 w66 c1.kids_ [32,124,124,32] b2 l3).bind fun(o23,m24)=>
    some (o23,m24)
   else
    (bif decide (c1.kind_=3)then
     (F102 w66 c1.kids_ [32,124,32] b2 l3).bind fun(o29,m30)=>
     some (o29,m30)
    else
     (bif decide (c1.kind_=7)then
      (F103 [[33,32]] b2 l3).bind fun o35=>
      (F102 w66 c1.kids_ [] o35 l3).bind fun(o39,m40)=>
      some (o39,m40)
     else
      (bif decide (c1.kind_=13)then
       (F103 [[64,32]] b2 l3).bind fun o45=>
       (F102 w66 c1.kids_ [] o45 l3).bind fun(o49,m50)=>
       some (o49,m50)
      else
       (bif decide (c1.kind_=9)then
        (F103 [[105,102,32,110,111,116,32]] b2 l3).bind fun o55=>
        (F102 w66 c1.kids_ [] o55 l3).bind fun(o59,m60)=>
        some (o59,m60)
       else
        (bif decide (c1.kind_=12)then
         (F104 w66 [123] c1.kids_ [125] b2 l3).bind fun(o65,m66)=>
         (F105 w152 c1.redirs_ o65 m66).bind fun(o70,m71)=>
         some (o70,m71)
        else
         (bif decide (c1.kind_=1)then
          (F106 w152 c1 b2 l3).bind fun(o76,m77)=>
          some (o76,m77)
         else
          (F107 w66 w152 c1 b2 l3).bind fun(o81,m82)=>
          some (o81,m82))))))))))
def S66:=SQ18 66
def Z0y(w1:Word)(i6:Int)(l7:Str)(l3:List Redir)(again8:(Int×Str)→Option Str)(again13:Int→Option Str):Int→Option Str:=fun end12=>
 (Q0d (decide (end12<(w1.text_.length:Int))) (sidx w1.quoted_ end12)).bind fun c16=>
 (Q0d (decide (end12<(w1.text_.length:Int))) (sidx w1.quoted_ i6)).bind fun c19=>
 (bif (decide (end12<(w1.text_.length:Int))&&decide (c16=c19))then
  again13 (IntKind.wrap .i64 (end12+1))
 else
  (Q1o w1.text_ i6 end12).bind fun t23=>
  (sidx w1.quoted_ i6).bind fun c26=>
  (bif decide (c26=49)then
   (L_ReplaceAll t23 [39] [39,39]).bind fun t30=>
   (catO [39] t30).bind fun s33=>
   (catO s33 [39]).bind fun s36=>
   (F103 [s36] l7 l3).bind fun o39=>
   again8 (end12,o39)
  else
   (F103 [t23] l7 l3).bind fun o43=>
   again8 (end12,o43)))
def Q8u(w1:Word)(l3:List Redir)(again8:(Int×Str)→Option Str):(Int×Str)→Option Str:=fun(i6,l7)=>
 (bif decide (i6<(w1.text_.length:Int))then
  iter (Z0y w1 i6 l7 l3 again8) BIG i6
 else
  some l7)
def Z0x(w1:Word)(l3:List Redir):Str→Option Str:=fun l5=>
 iter (Q8u w1 l3) BIG (0,l5)
def F190(w1:Word)(b2:Str)(l3:List Redir):Option Str:=
 (bif decide (w1.text_=[])then
  (F103 [[39,39]] b2 l3).bind fun o50=>
  Z0x w1 l3 o50
 else
  Z0x w1 l3 b2)
def S190(F:Word→Str→(List Redir)→Option (Str)):Spec:=mkS 190 (α:=Word×Str×(List Redir)) (ρ:=Str) (fun(a,b,c)=>F a b c) (fun(a,b,c)=>([.ref 0 0,.pv (.agg [.int .i64 a.kind_,.str a.text_,.str a.quoted_,.slice (List.map Word.pv a.words_),.slice (List.map Cmd.pv a.cmd_)])],[.prn 5 b 51 9 (List.map Redir.pv c)])) (fun(a,b,c) d=>.ret [] [.prn 5 d 51 9 (List.map Redir.pv c)])
def Z0w(l2:List Word)(between3:Str)(w152:Y2)(closing4:Str)(again16:(Int×Str×(List Redir))→Option (Str×(List Redir))):(Int×Str×(List Redir))→Option (Str×(List Redir)):=fun(i13,l14,m15)=>
 (bif decide (i13<(l2.length:Int))then
  (lidx l2 i13).bind fun u20=>
  (bif decide (0<i13)then
   (F103 [between3] l14 m15).bind fun o24=>
   (w152 u20 o24 m15).bind fun(r28,r29)=>
   again16 (IntKind.wrap .i64 (i13+1),r28,r29)
  else
   (w152 u20 l14 m15).bind fun(r33,r34)=>
   again16 (IntKind.wrap .i64 (i13+1),r33,r34))
 else
  (F103 [closing4] l14 m15).bind fun o38=>
  some (o38,m15))
def F191(w152:Y2)(open1:Str)(l2:List Word)(between3:Str)(closing4:Str)(b5:Str)(l6:List Redir):Option (Str×(List Redir)):=
 (F103 [open1] b5 l6).bind fun o9=>
 iter (Z0w l2 between3 w152 closing4) BIG (0,o9,l6)
def S191(F:Str→(List Word)→Str→Str→Str→(List Redir)→Option (Str×(List Redir))):Spec:=mkS 191 (α:=Str×(List Word)×Str×Str×Str×(List Redir)) (ρ:=Str×(List Redir)) (fun(a,b,c,d,e,f)=>F a b c d e f) (fun(a,b,c,d,e,f)=>([.ref 0 0,as_ a,.pv (.slice (List.map Word.pv b)),as_ c,as_ d],[.prn 5 e 51 9 (List.map Redir.pv f)])) (fun(a,b,c,d,e,f) (g,h)=>.ret [] [.prn 5 g 51 9 (List.map Redir.pv h)])
def F152(w66:Y5)(w152:Y2)(w1:Word)(b2:Str)(l3:List Redir):Option (Str×(List Redir)):=
 (bif decide (w1.kind_=1)then
  (F190 w1 b2 l3).bind fun o7=>
  some (o7,l3)
 else
  (bif decide (w1.kind_=2)then
   (F103 [[36],w1.text_] b2 l3).bind fun o12=>
   some (o12,l3)
  else
   (bif decide (w1.kind_=3)then
    (F103 [[36,35],w1.text_] b2 l3).bind fun o17=>
    some (o17,l3)
   else
    (bif decide (w1.kind_=7)then
     (F103 [[36],w1.text_] b2 l3).bind fun o22=>
     (F191 w152 [40] w1.words_ [32] [41] o22 l3).bind fun(o26,m27)=>
     some (o26,m27)
    else
     (bif decide (w1.kind_=5)then
      (F191 w152 [40] w1.words_ [32] [41] b2 l3).bind fun(o32,m33)=>
      some (o32,m33)
     else
      (bif decide (w1.kind_=4)then
       (F191 w152 [] w1.words_ [94] [] b2 l3).bind fun(o38,m39)=>
       some (o38,m39)
      else
       (bif decide (w1.kind_=6)then
        (F104 w66 [96,123] w1.cmd_ [125] b2 l3).bind fun(o44,m45)=>
        some (o44,m45)
       else
        some (b2,l3))))))))
def S152(F:Word→Str→(List Redir)→Option (Str×(List Redir))):Spec:=mkS 152 (α:=Word×Str×(List Redir)) (ρ:=Str×(List Redir)) (fun(a,b,c)=>F a b c) (fun(a,b,c)=>([.ref 0 0,.pv (.agg [.int .i64 a.kind_,.str a.text_,.str a.quoted_,.slice (List.map Word.pv a.words_),.slice (List.map Cmd.pv a.cmd_)])],[.prn 5 b 51 9 (List.map Redir.pv c)])) (fun(a,b,c) (d,e)=>.ret [] [.prn 5 d 51 9 (List.map Redir.pv e)])
mutual
def K66:Nat→Cmd→Str→(List Redir)→Option (Str×(List Redir))
 | 0=>fun _ _ _=>none
 | n+1=>F66 (K66 n) (K152 n)
def K152:Nat→Word→Str→(List Redir)→Option (Str×(List Redir))
 | 0=>fun _ _ _=>none
 | n+1=>F152 (K66 n) (K152 n)
end
def F17(l1:List Cmd):Option (Str×Int):=
 (F13 l1).bind fun r4=>
 (bif !r4 then
  some ([],1)
 else
  (F35 (K66 BIG) l1 [] ([]:List Redir)).bind fun(o8,m9)=>
  (F36 o8 m9).bind fun r13=>
  some (r13,0))
def SQ19(n:FuncId)(F:(List Cmd)→Option (Str×Int)):Spec:=mkS n (α:=(List Cmd)) (ρ:=Str×Int) F (fun a=>([.pv (.slice (List.map Cmd.pv a))],[])) (fun a (b,c)=>.ret [as_ b,ai c] [])
def S17:=SQ19 17
def F7:Option Bool:=
 (F8 [105,102,40,126,32,36,120,32,97,41,123,101,99,104,111,32,39,98,32,99,39,125]).bind fun(r2,r3,r4)=>
 (Q0d (!((!decide (r4=0)||!decide (r3=0))||!decide ((r2.length:Int)=1))) (lidx r2 0)).bind fun u7=>
 (Q0d (!((((!decide (r4=0)||!decide (r3=0))||!decide ((r2.length:Int)=1))||!decide (u7.kind_=8))||!decide ((u7.kids_.length:Int)=2))) (K15 BIG r2)).bind fun r10=>
 (Q0d (!(((((!decide (r4=0)||!decide (r3=0))||!decide ((r2.length:Int)=1))||!decide (u7.kind_=8))||!decide ((u7.kids_.length:Int)=2))||!decide (r10=9))) (F13 r2)).bind fun r13=>
 (bif ((((((!decide (r4=0)||!decide (r3=0))||!decide ((r2.length:Int)=1))||!decide (u7.kind_=8))||!decide ((u7.kids_.length:Int)=2))||!decide (r10=9))||!r13)then
  some false
 else
  (F8 [97,32,124,32,124,32,98]).bind fun(r17,r18,r19)=>
  (bif (!decide (r18=4)||!decide (r19=47))then
   some false
  else
   (F17 r2).bind fun(r23,r24)=>
   some (decide (r23=[105,102,40,10,126,32,36,120,32,97,10,41,32,123,10,101,99,104,111,32,39,98,32,99,39,10,125,10])&&decide (r24=0))))
def S7(F:Option (Bool)):Spec:=mkS 7 (α:=Unit) (ρ:=Bool) (fun(_:Unit)=>F) (fun(_:Unit)=>([],[])) (fun(_:Unit) a=>.ret [ab a] [])
theorem S7_F(F:Option (Bool)):(S7 F).F ()=F:=rfl
def F34(d1:Redir):Option (List Word):=
 (bif (decide (d1.kind_=5)||decide (d1.kind_=6))then
  some []
 else
  some [d1.word_])
def S34(F:Redir→Option ((List Word))):Spec:=mkS 34 (α:=Redir) (ρ:=(List Word)) F (fun a=>([.pv (.agg [.int .i64 a.kind_,.int .i64 a.fd_,.int .i64 a.from_,.int .i64 a.word_.kind_,.str a.word_.text_,.str a.word_.quoted_,.slice (List.map Word.pv a.word_.words_),.slice (List.map Cmd.pv a.word_.cmd_),.bool a.raw_])],[])) (fun a b=>.ret [.pv (.slice (List.map Word.pv b))] [])
def J6w(u9:Cmd)(w33:Y9)(again5:(Int×Int)→Option Int)(i4:Int)(again20:(Int×Int)→Option Int):(Int×Int)→Option Int:=fun(n18,k19)=>
 (bif decide (k19<(u9.redirs_.length:Int))then
  (lidx u9.redirs_ k19).bind fun u24=>
  (F34 u24).bind fun r27=>
  (w33 r27).bind fun r30=>
  again20 (IntKind.wrap .i64 (n18+r30),IntKind.wrap .i64 (k19+1))
 else
  again5 (n18,IntKind.wrap .i64 (i4+1)))
def Z7b(l1:List Cmd)(w33:Y9)(w16:Y8)(again5:(Int×Int)→Option Int):(Int×Int)→Option Int:=fun(n3,i4)=>
 (bif decide (i4<(l1.length:Int))then
  (lidx l1 i4).bind fun u9=>
  (w33 u9.words_).bind fun r12=>
  (w16 u9.kids_).bind fun r15=>
  iter (J6w u9 w33 again5 i4) BIG (IntKind.wrap .i64 ((IntKind.wrap .i64 ((IntKind.wrap .i64 (n3+r12))+r15))+(u9.redirs_.length:Int)),0)
 else
  some n3)
def F16(w16:Y8)(w33:Y9)(l1:List Cmd):Option Int:=
 iter (Z7b l1 w33 w16) BIG ((l1.length:Int),0)
def S16:=SQ12 16
def X2u(l1:List Word)(w33:Y9)(w16:Y8)(again5:(Int×Int)→Option Int):(Int×Int)→Option Int:=fun(n3,i4)=>
 (bif decide (i4<(l1.length:Int))then
  (lidx l1 i4).bind fun u9=>
  (w33 u9.words_).bind fun r12=>
  (w16 u9.cmd_).bind fun r15=>
  again5 (IntKind.wrap .i64 ((IntKind.wrap .i64 (n3+r12))+r15),IntKind.wrap .i64 (i4+1))
 else
  some n3)
def F33(w16:Y8)(w33:Y9)(l1:List Word):Option Int:=
 iter (X2u l1 w33 w16) BIG ((l1.length:Int),0)
def SQ20(n:FuncId)(F:(List Word)→Option (Int)):Spec:=mkS n (α:=(List Word)) (ρ:=Int) F (fun a=>([.pv (.slice (List.map Word.pv a))],[])) (fun a b=>.ret [ai b] [])
def S33:=SQ20 33
mutual
def K16:Nat→(List Cmd)→Option (Int)
 | 0=>fun _=>none
 | n+1=>F16 (K16 n) (K33 n)
def K33:Nat→(List Word)→Option (Int)
 | 0=>fun _=>none
 | n+1=>F33 (K16 n) (K33 n)
end
def J6v(u9:Cmd)(w61:Y9)(again5:(Int×Int)→Option Int)(n3:Int)(i4:Int)(again20:(Int×Int)→Option Int):(Int×Int)→Option Int:=fun(d18,k19)=>
 (bif decide (k19<(u9.redirs_.length:Int))then
  (lidx u9.redirs_ k19).bind fun u24=>
  (F34 u24).bind fun r27=>
  (w61 r27).bind fun r30=>
  again20 (imax d18 r30,IntKind.wrap .i64 (k19+1))
 else
  again5 (imax n3 (IntKind.wrap .i64 (1+d18)),IntKind.wrap .i64 (i4+1)))
def Z6z(l1:List Cmd)(w61:Y9)(w25:Y8)(again5:(Int×Int)→Option Int):(Int×Int)→Option Int:=fun(n3,i4)=>
 (bif decide (i4<(l1.length:Int))then
  (lidx l1 i4).bind fun u9=>
  (w61 u9.words_).bind fun r12=>
  (w25 u9.kids_).bind fun r15=>
  iter (J6v u9 w61 again5 n3 i4) BIG (imax r12 r15,0)
 else
  some n3)
def F25(w25:Y8)(w61:Y9)(l1:List Cmd):Option Int:=
 iter (Z6z l1 w61 w25) BIG (0,0)
def S25:=SQ12 25
def X2s(l1:List Word)(w61:Y9)(w25:Y8)(again5:(Int×Int)→Option Int):(Int×Int)→Option Int:=fun(n3,i4)=>
 (bif decide (i4<(l1.length:Int))then
  (lidx l1 i4).bind fun u9=>
  (w61 u9.words_).bind fun r12=>
  (w25 u9.cmd_).bind fun r15=>
  again5 (imax n3 (IntKind.wrap .i64 (1+(imax r12 r15))),IntKind.wrap .i64 (i4+1))
 else
  some n3)
def F61(w25:Y8)(w61:Y9)(l1:List Word):Option Int:=
 iter (X2s l1 w61 w25) BIG (0,0)
def S61:=SQ20 61
mutual
def K25:Nat→(List Cmd)→Option (Int)
 | 0=>fun _=>none
 | n+1=>F25 (K25 n) (K61 n)
def K61:Nat→(List Word)→Option (Int)
 | 0=>fun _=>none
 | n+1=>F61 (K25 n) (K61 n)
end
def F100(Q0h:Int):Option Int:=
 (bif (bif decide (Q0h=1)then decide (Q0h=1)else(bif decide (Q0h=2)then decide (Q0h=2)else(bif decide (Q0h=7)then decide (Q0h=7)else(bif decide (Q0h=8)then decide (Q0h=8)else(bif decide (Q0h=9)then decide (Q0h=9)else(bif decide (Q0h=10)then decide (Q0h=10)else(bif decide (Q0h=11)then decide (Q0h=11)else(bif decide (Q0h=12)then decide (Q0h=12)else(bif decide (Q0h=13)then decide (Q0h=13)else(bif decide (Q0h=15)then decide (Q0h=15)else(bif decide (Q0h=16)then decide (Q0h=16)else decide (Q0h=17))))))))))))then
  some 1
 else
  (bif decide (Q0h=3)then
   some 2
  else
   (bif (bif decide (Q0h=5)then decide (Q0h=5)else decide (Q0h=6))then
    some 3
   else
    (bif decide (Q0h=14)then
     some 4
    else
     some 0))))
def S100(F:Int→Option (Int)):Spec:=mkS 100 (α:=Int) (ρ:=Int) F (fun a=>([ai a],[])) (fun a b=>.ret [ai b] [])
def X2r(l1:List Cmd)(most2:Int)(w101:Y4)(again5:Int→Option Bool):Int→Option Bool:=fun i4=>
 (bif decide (i4<(l1.length:Int))then
  (lidx l1 i4).bind fun u9=>
  (F100 u9.kind_).bind fun r12=>
  (Q0d (!(decide (r12<1)||decide (most2<r12))) (w101 u9)).bind fun r15=>
  (bif ((decide (r12<1)||decide (most2<r12))||!r15)then
   some false
  else
   again5 (IntKind.wrap .i64 (i4+1)))
 else
  some true)
def F65(w101:Y4)(l1:List Cmd)(most2:Int):Option Bool:=
 iter (X2r l1 most2 w101) BIG 0
def S65(F:(List Cmd)→Int→Option (Bool)):Spec:=mkS 65 (α:=(List Cmd)×Int) (ρ:=Bool) (fun(a,b)=>F a b) (fun(a,b)=>([.pv (.slice (List.map Cmd.pv a)),ai b],[])) (fun(a,b) c=>.ret [ab c] [])
def F30(w101:Y4)(l1:List Cmd):Option Bool:=
 (F65 w101 l1 4).bind fun r3=>
 some r3
def S30:=SQ0 30
def J4e(s1:Str)(again4:Int→Option Bool):Int→Option Bool:=fun i3=>
 (bif decide (i3<(s1.length:Int))then
  (sidx s1 i3).bind fun c8=>
  (bif !(((((decide (97≤c8)&&decide (c8≤122))||(decide (65≤c8)&&decide (c8≤90)))||(decide (48≤c8)&&decide (c8≤57)))||decide (c8=95))||decide (c8=42))then
   some false
  else
   again4 (IntKind.wrap .i64 (i3+1)))
 else
  some (!decide (s1=[])))
def F172(s1:Str):Option Bool:=
 iter (J4e s1) BIG 0
def S172:=SQ3 172
def F145(c1:Cmd):Option Bool:=
 (Q0d ((decide (c1.kind_=2)||decide (c1.kind_=10))||decide (c1.kind_=15)) (F172 c1.name_)).bind fun r3=>
 (bif (((((decide (c1.kind_=2)||decide (c1.kind_=10))||decide (c1.kind_=15))&&!r3)||(!((decide (c1.kind_=2)||decide (c1.kind_=10))||decide (c1.kind_=15))&&!decide (c1.name_=[])))||((decide (0<(c1.redirs_.length:Int))&&!decide (c1.kind_=1))&&!decide (c1.kind_=12)))then
  some false
 else
  (bif decide (c1.kind_=1)then
   some (decide (0<IntKind.wrap .i64 ((c1.words_.length:Int)+(c1.redirs_.length:Int)))&&decide ((c1.kids_.length:Int)=0))
  else
   (bif decide (c1.kind_=2)then
    some (decide ((c1.words_.length:Int)=1)&&decide ((c1.kids_.length:Int)≤1))
   else
    (bif (bif decide (c1.kind_=7)then decide (c1.kind_=7)else(bif decide (c1.kind_=13)then decide (c1.kind_=13)else(bif decide (c1.kind_=9)then decide (c1.kind_=9)else decide (c1.kind_=14))))then
     some (decide ((c1.words_.length:Int)=0)&&decide ((c1.kids_.length:Int)=1))
    else
     (bif (bif decide (c1.kind_=8)then decide (c1.kind_=8)else(bif decide (c1.kind_=11)then decide (c1.kind_=11)else(bif decide (c1.kind_=5)then decide (c1.kind_=5)else decide (c1.kind_=6))))then
      some (decide ((c1.words_.length:Int)=0)&&decide ((c1.kids_.length:Int)=2))
     else
      (bif decide (c1.kind_=10)then
       some (decide ((c1.kids_.length:Int)=1))
      else
       (bif (bif decide (c1.kind_=12)then decide (c1.kind_=12)else decide (c1.kind_=15))then
        some (decide ((c1.words_.length:Int)=0))
       else
        (bif decide (c1.kind_=3)then
         some (decide ((c1.words_.length:Int)=0)&&decide (2≤(c1.kids_.length:Int)))
        else
         (bif decide (c1.kind_=16)then
          some (decide (0<(c1.words_.length:Int))&&decide ((c1.kids_.length:Int)=0))
         else
          some (decide (c1.kind_=17)&&decide ((c1.words_.length:Int)=1)))))))))))
def S145:=SQ14 145
def J4i(l1:List Word)(w184:Y3)(again4:Int→Option Bool):Int→Option Bool:=fun i3=>
 (bif decide (i3<(l1.length:Int))then
  (lidx l1 i3).bind fun u8=>
  (w184 u8).bind fun r11=>
  (bif !r11 then
   some false
  else
   again4 (IntKind.wrap .i64 (i3+1)))
 else
  some true)
def F146(w184:Y3)(l1:List Word):Option Bool:=
 iter (J4i l1 w184) BIG 0
def S146:=SQ16 146
def F185(w1:Word):Option Bool:=
 some (((decide (w1.kind_=0)&&decide (w1.text_=[]))&&decide (w1.quoted_=[]))&&decide (IntKind.wrap .i64 ((w1.words_.length:Int)+(w1.cmd_.length:Int))=0))
def S185:=SQ15 185
def Z0z(n1:Int)(again5:(Str×Int)→Option Str):(Str×Int)→Option Str:=fun(s3,i4)=>
 (bif decide (i4<n1)then
  (catO s3 [48]).bind fun s9=>
  again5 (s9,IntKind.wrap .i64 (i4+1))
 else
  some s3)
def F186(n1:Int):Option Str:=
 iter (Z0z n1) BIG ([],0)
def SQ21(n:FuncId)(F:Int→Option (Str)):Spec:=mkS n (α:=Int) (ρ:=Str) F (fun a=>([ai a],[])) (fun a b=>.ret [as_ b] [])
def S186:=SQ21 186
def F147(w184:Y3)(d1:Redir):Option Bool:=
 (bif (((((decide (d1.fd_<0)||decide (64≤d1.fd_))||decide (d1.from_<0))||decide (64≤d1.from_))||(!decide (d1.kind_=5)&&!decide (d1.from_=0)))||(!decide (d1.kind_=4)&&d1.raw_))then
  some false
 else
  (bif (bif decide (d1.kind_=1)then decide (d1.kind_=1)else(bif decide (d1.kind_=2)then decide (d1.kind_=2)else decide (d1.kind_=3)))then
   (w184 d1.word_).bind fun r7=>
   some r7
  else
   (bif (bif decide (d1.kind_=5)then decide (d1.kind_=5)else decide (d1.kind_=6))then
    (F185 d1.word_).bind fun r12=>
    some r12
   else
    (bif decide (d1.kind_=4)then
     (Q0d (decide (d1.fd_=0)&&decide (d1.word_.kind_=1)) (F186 (d1.word_.text_.length:Int))).bind fun r16=>
     (Q0d ((((decide (d1.fd_=0)&&decide (d1.word_.kind_=1))&&decide (d1.word_.quoted_=r16))&&decide (IntKind.wrap .i64 ((d1.word_.words_.length:Int)+(d1.word_.cmd_.length:Int))=0))&&!(decide ((d1.word_.text_.length:Int)=0))) (sidx d1.word_.text_ (IntKind.wrap .i64 ((d1.word_.text_.length:Int)-1)))).bind fun c19=>
     some ((((decide (d1.fd_=0)&&decide (d1.word_.kind_=1))&&decide (d1.word_.quoted_=r16))&&decide (IntKind.wrap .i64 ((d1.word_.words_.length:Int)+(d1.word_.cmd_.length:Int))=0))&&(decide ((d1.word_.text_.length:Int)=0)||decide (c19=10)))
    else
     some false))))
def S147:=SQ11 147
def F187(s1:Str):Option Bool:=
 some ((((((decide (s1=[105,102])||decide (s1=[119,104,105,108,101]))||decide (s1=[102,111,114]))||decide (s1=[115,119,105,116,99,104]))||decide (s1=[99,97,115,101]))||decide (s1=[102,110]))||decide (s1=[126]))
def S187:=SQ3 187
def J4f(quoted1:Str)(again4:Int→Option Bool):Int→Option Bool:=fun i3=>
 (bif decide (i3<(quoted1.length:Int))then
  (sidx quoted1 i3).bind fun c8=>
  (bif decide (c8=49)then
   some true
  else
   again4 (IntKind.wrap .i64 (i3+1)))
 else
  some false)
def F171(quoted1:Str):Option Bool:=
 iter (J4f quoted1) BIG 0
def S171:=SQ3 171
def Z1d:(Int×Str×Str×(List Word)×(List Cmd))→Option Bool:=fun(x3,x4,x5,x6,x7)=>
 (Q0d (decide (x3=1)) (F187 x4)).bind fun r8=>
 (Q0d (decide (x3=1)&&r8) (F171 x5)).bind fun r11=>
 some ((decide (x3=1)&&r8)&&!r11)
def F148(w1:Word):Option Bool:=
 (bif decide (w1.kind_=4)then
  (lidx w1.words_ 0).bind fun u15=>
  Z1d (u15.kind_,u15.text_,u15.quoted_,u15.words_,u15.cmd_)
 else
  Z1d (w1.kind_,w1.text_,w1.quoted_,w1.words_,w1.cmd_))
def S148:=SQ15 148
def F149(w101:Y4)(c1:Cmd):Option Bool:=
 (Q0d (decide (c1.kind_=12)&&decide ((c1.redirs_.length:Int)=0)) (w101 c1)).bind fun r3=>
 some ((decide (c1.kind_=12)&&decide ((c1.redirs_.length:Int)=0))&&r3)
def S149:=SQ14 149
def J4h(l1:List Cmd)(w184:Y3)(w101:Y4)(again4:Int→Option Bool):Int→Option Bool:=fun i3=>
 (bif decide (i3<(l1.length:Int))then
  (lidx l1 i3).bind fun u8=>
  (Q0d (!(((!decide (u8.kind_=18)||!decide (u8.name_=[]))||decide (0<(u8.redirs_.length:Int)))||decide ((u8.words_.length:Int)=0))) (F146 w184 u8.words_)).bind fun r11=>
  (Q0d (!((((!decide (u8.kind_=18)||!decide (u8.name_=[]))||decide (0<(u8.redirs_.length:Int)))||decide ((u8.words_.length:Int)=0))||!r11)) (F30 w101 u8.kids_)).bind fun r14=>
  (bif (((((!decide (u8.kind_=18)||!decide (u8.name_=[]))||decide (0<(u8.redirs_.length:Int)))||decide ((u8.words_.length:Int)=0))||!r11)||!r14)then
   some false
  else
   again4 (IntKind.wrap .i64 (i3+1)))
 else
  some true)
def F150(w101:Y4)(w184:Y3)(l1:List Cmd):Option Bool:=
 iter (J4h l1 w184 w101) BIG 0
def S150:=SQ0 150
def J4m(c1:Cmd)(w184:Y3)(w101:Y4)(again11:Int→Option Bool):Int→Option Bool:=fun i10=>
 (bif decide (i10<(c1.redirs_.length:Int))then
  (lidx c1.redirs_ i10).bind fun u15=>
  (F147 w184 u15).bind fun r18=>
  (bif !r18 then
   some false
  else
   again11 (IntKind.wrap .i64 (i10+1)))
 else
  (bif decide (c1.kind_=1)then
   (Q0d (!(decide ((c1.words_.length:Int)=0))) (lidx c1.words_ 0)).bind fun u23=>
   (Q0d (!(decide ((c1.words_.length:Int)=0))) (F148 u23)).bind fun r26=>
   some (decide ((c1.words_.length:Int)=0)||!r26)
  else
   (bif (bif decide (c1.kind_=8)then decide (c1.kind_=8)else decide (c1.kind_=11))then
    (lidx c1.kids_ 0).bind fun u31=>
    (F149 w101 u31).bind fun r34=>
    (Q0d r34 (Q3z c1.kids_ 1 (c1.kids_.length:Int))).bind fun l37=>
    (Q0d r34 (F65 w101 l37 1)).bind fun r40=>
    some (r34&&r40)
   else
    (bif (bif decide (c1.kind_=12)then decide (c1.kind_=12)else decide (c1.kind_=15))then
     (F30 w101 c1.kids_).bind fun r45=>
     some r45
    else
     (bif (bif decide (c1.kind_=5)then decide (c1.kind_=5)else decide (c1.kind_=6))then
      (Q3z c1.kids_ 0 1).bind fun l50=>
      (F65 w101 l50 3).bind fun r53=>
      (Q0d r53 (Q3z c1.kids_ 1 (c1.kids_.length:Int))).bind fun l56=>
      (Q0d r53 (F65 w101 l56 2)).bind fun r59=>
      some (r53&&r59)
     else
      (bif decide (c1.kind_=14)then
       (F65 w101 c1.kids_ 3).bind fun r63=>
       some r63
      else
       (bif decide (c1.kind_=17)then
        (F150 w101 w184 c1.kids_).bind fun r67=>
        some r67
       else
        (F65 w101 c1.kids_ 1).bind fun r70=>
        some r70)))))))
def F101(w101:Y4)(w184:Y3)(c1:Cmd):Option Bool:=
 (F145 c1).bind fun r3=>
 (Q0d r3 (F146 w184 c1.words_)).bind fun r6=>
 (bif (!r3||!r6)then
  some false
 else
  iter (J4m c1 w184 w101) BIG 0)
def S101:=SQ14 101
def F238(c1:Int):Option Bool:=
 (bif (bif decide (c1=32)then decide (c1=32)else(bif decide (c1=9)then decide (c1=9)else(bif decide (c1=10)then decide (c1=10)else(bif decide (c1=59)then decide (c1=59)else(bif decide (c1=38)then decide (c1=38)else(bif decide (c1=124)then decide (c1=124)else(bif decide (c1=40)then decide (c1=40)else(bif decide (c1=41)then decide (c1=41)else(bif decide (c1=123)then decide (c1=123)else(bif decide (c1=125)then decide (c1=125)else(bif decide (c1=60)then decide (c1=60)else(bif decide (c1=62)then decide (c1=62)else(bif decide (c1=61)then decide (c1=61)else(bif decide (c1=94)then decide (c1=94)else(bif decide (c1=96)then decide (c1=96)else(bif decide (c1=36)then decide (c1=36)else decide (c1=39)))))))))))))))))then
  some false
 else
  some true)
def S238:=SQ4 238
def Q7j(w1:Word)(again5:Int→Option Bool):Int→Option Bool:=fun i4=>
 (bif decide (i4<(w1.text_.length:Int))then
  (sidx w1.quoted_ i4).bind fun c9=>
  (Q0d (!(!decide (c9=48)&&!decide (c9=49))&&decide (c9=48)) (sidx w1.text_ i4)).bind fun c12=>
  (Q0d (!(!decide (c9=48)&&!decide (c9=49))&&decide (c9=48)) (F238 c12)).bind fun r15=>
  (bif ((!decide (c9=48)&&!decide (c9=49))||(decide (c9=48)&&!r15))then
   some false
  else
   again5 (IntKind.wrap .i64 (i4+1)))
 else
  (Q0d (!(decide (w1.text_=[]))) (sidx w1.quoted_ 0)).bind fun c19=>
  (Q0d (!(decide (w1.text_=[])||decide (c19=49))) (sidx w1.text_ 0)).bind fun c22=>
  some ((decide (w1.text_=[])||decide (c19=49))||((!decide (c22=35)&&!decide (c22=33))&&!decide (c22=64))))
def F214(w1:Word):Option Bool:=
 (bif !decide ((w1.quoted_.length:Int)=(w1.text_.length:Int))then
  some false
 else
  iter (Q7j w1) BIG 0)
def S214:=SQ15 214
def Z9d(w1:Word)(w184:Y3)(again29:Int→Option Bool):Int→Option Bool:=fun i28=>
 (bif decide (i28<(w1.words_.length:Int))then
  (lidx w1.words_ i28).bind fun u33=>
  (bif decide (u33.kind_=4)then
   some false
  else
   again29 (IntKind.wrap .i64 (i28+1)))
 else
  (Q0d (((decide (w1.text_=[])&&decide (w1.quoted_=[]))&&decide (1<(w1.words_.length:Int)))&&decide ((w1.cmd_.length:Int)=0)) (F146 w184 w1.words_)).bind fun r37=>
  some ((((decide (w1.text_=[])&&decide (w1.quoted_=[]))&&decide (1<(w1.words_.length:Int)))&&decide ((w1.cmd_.length:Int)=0))&&r37))
def F184(w101:Y4)(w184:Y3)(w1:Word):Option Bool:=
 (bif decide (w1.kind_=1)then
  (F214 w1).bind fun r4=>
  some (r4&&decide (IntKind.wrap .i64 ((w1.words_.length:Int)+(w1.cmd_.length:Int))=0))
 else
  (bif (bif decide (w1.kind_=2)then decide (w1.kind_=2)else decide (w1.kind_=3))then
   (F172 w1.text_).bind fun r9=>
   some ((r9&&decide (w1.quoted_=[]))&&decide (IntKind.wrap .i64 ((w1.words_.length:Int)+(w1.cmd_.length:Int))=0))
  else
   (bif decide (w1.kind_=7)then
    (F172 w1.text_).bind fun r13=>
    (Q0d (((r13&&decide (w1.quoted_=[]))&&decide (0<(w1.words_.length:Int)))&&decide ((w1.cmd_.length:Int)=0)) (F146 w184 w1.words_)).bind fun r16=>
    some ((((r13&&decide (w1.quoted_=[]))&&decide (0<(w1.words_.length:Int)))&&decide ((w1.cmd_.length:Int)=0))&&r16)
   else
    (bif decide (w1.kind_=5)then
     (Q0d ((decide (w1.text_=[])&&decide (w1.quoted_=[]))&&decide ((w1.cmd_.length:Int)=0)) (F146 w184 w1.words_)).bind fun r20=>
     some (((decide (w1.text_=[])&&decide (w1.quoted_=[]))&&decide ((w1.cmd_.length:Int)=0))&&r20)
    else
     (bif decide (w1.kind_=6)then
      (Q0d ((decide (w1.text_=[])&&decide (w1.quoted_=[]))&&decide ((w1.words_.length:Int)=0)) (F30 w101 w1.cmd_)).bind fun r24=>
      some (((decide (w1.text_=[])&&decide (w1.quoted_=[]))&&decide ((w1.words_.length:Int)=0))&&r24)
     else
      (bif decide (w1.kind_=4)then
       iter (Z9d w1 w184) BIG 0
      else
       some false))))))
def S184:=SQ15 184
mutual
def K101:Nat→Cmd→Option (Bool)
 | 0=>fun _=>none
 | n+1=>F101 (K101 n) (K184 n)
def K184:Nat→Word→Option (Bool)
 | 0=>fun _=>none
 | n+1=>F184 (K101 n) (K184 n)
end
def F14(l1:List Cmd):Option Bool:=
 (K16 BIG l1).bind fun r3=>
 (Q0d (decide (r3≤1024)) (K25 BIG l1)).bind fun r6=>
 (Q0d (decide (r3≤1024)&&decide (r6≤32)) (F30 (K101 BIG) l1)).bind fun r9=>
 some ((decide (r3≤1024)&&decide (r6≤32))&&r9)
def S14:=SQ0 14
def F112(s1:Str)(x2:Str)(x3:Str):Option Str:=
 (catO x2 s1).bind fun s5=>
 some s5
def S112(F:Str→Str→Str→Option (Str)):Spec:=mkS 112 (α:=Str×Str×Str) (ρ:=Str) (fun(a,b,c)=>F a b c) (fun(a,b,c)=>([.ref 0 0,as_ a],[.var [as_ b,as_ c]])) (fun(a,b,c) d=>.ret [] [.var [as_ d,as_ c]])
def Z6s(x2:Str):Str→Option (Str×Str):=fun x5=>
 (catO [10] x2).bind fun s6=>
 (F112 s6 x5 x2).bind fun x9=>
 some (x9,[])
def F69(x1:Str)(x2:Str):Option (Str×Str):=
 (Q0d (decide (0<(x1.length:Int))) (sidx x1 (IntKind.wrap .i64 ((x1.length:Int)-1)))).bind fun c13=>
 (bif (decide (0<(x1.length:Int))&&decide (c13=92))then
  (F112 [32] x1 x2).bind fun x17=>
  Z6s x2 x17
 else
  Z6s x2 x1)
def S69(F:Str→Str→Option (Str×Str)):Spec:=mkS 69 (α:=Str×Str) (ρ:=Str×Str) (fun(a,b)=>F a b) (fun(a,b)=>([.ref 0 0],[.var [as_ a,as_ b]])) (fun(a,b) (c,d)=>.ret [] [.var [as_ c,as_ d]])
def J6s(l1:List Cmd)(w68:Y7)(again9:(Int×Str×Str)→Option (Str×Str)):(Int×Str×Str)→Option (Str×Str):=fun(i6,x7,x8)=>
 (bif decide (i6<(l1.length:Int))then
  (lidx l1 i6).bind fun u13=>
  (w68 u13 x7 x8).bind fun(r16,r17)=>
  (F69 r16 r17).bind fun(x21,x22)=>
  again9 (IntKind.wrap .i64 (i6+1),x21,x22)
 else
  some (x7,x8))
def F37(w68:Y7)(l1:List Cmd)(x2:Str)(x3:Str):Option (Str×Str):=
 iter (J6s l1 w68) BIG (0,x2,x3)
def S37(F:(List Cmd)→Str→Str→Option (Str×Str)):Spec:=mkS 37 (α:=(List Cmd)×Str×Str) (ρ:=Str×Str) (fun(a,b,c)=>F a b c) (fun(a,b,c)=>([.ref 0 0,.pv (.slice (List.map Cmd.pv a))],[.var [as_ b,as_ c]])) (fun(a,b,c) (d,e)=>.ret [] [.var [as_ d,as_ e]])
def Z1j(l1:List Word)(i6:Int)(w158:Y6)(x8:Str)(again9:(Int×Str×Str)→Option (Str×Str)):Str→Option (Str×Str):=fun x13=>
 (lidx l1 i6).bind fun u14=>
 (w158 u14 x13 x8).bind fun(r17,r18)=>
 again9 (IntKind.wrap .i64 (i6+1),r17,r18)
def Z1k(l1:List Word)(w158:Y6)(again9:(Int×Str×Str)→Option (Str×Str)):(Int×Str×Str)→Option (Str×Str):=fun(i6,x7,x8)=>
 (bif decide (i6<(l1.length:Int))then
  (bif decide (0<i6)then
   (F112 [32] x7 x8).bind fun x23=>
   Z1j l1 i6 w158 x8 again9 x23
  else
   Z1j l1 i6 w158 x8 again9 x7)
 else
  some (x7,x8))
def F110(w158:Y6)(l1:List Word)(x2:Str)(x3:Str):Option (Str×Str):=
 iter (Z1k l1 w158) BIG (0,x2,x3)
def S110(F:(List Word)→Str→Str→Option (Str×Str)):Spec:=mkS 110 (α:=(List Word)×Str×Str) (ρ:=Str×Str) (fun(a,b,c)=>F a b c) (fun(a,b,c)=>([.ref 0 0,.pv (.slice (List.map Word.pv a))],[.var [as_ b,as_ c]])) (fun(a,b,c) (d,e)=>.ret [] [.var [as_ d,as_ e]])
def F111(w68:Y7)(from1:Str)(l2:List Cmd)(to3:Str)(x4:Str)(x5:Str):Option (Str×Str):=
 (F112 from1 x4 x5).bind fun x8=>
 (F69 x8 x5).bind fun(x12,x13)=>
 (F37 w68 l2 x12 x13).bind fun(x17,x18)=>
 (F112 to3 x17 x18).bind fun x22=>
 some (x22,x18)
def S111(F:Str→(List Cmd)→Str→Str→Str→Option (Str×Str)):Spec:=mkS 111 (α:=Str×(List Cmd)×Str×Str×Str) (ρ:=Str×Str) (fun(a,b,c,d,e)=>F a b c d e) (fun(a,b,c,d,e)=>([.ref 0 0,as_ a,.pv (.slice (List.map Cmd.pv b)),as_ c],[.var [as_ d,as_ e]])) (fun(a,b,c,d,e) (f,g)=>.ret [] [.var [as_ f,as_ g]])
def Z1h(l1:List Cmd)(i7:Int)(w68:Y7)(x9:Str)(again10:(Int×Str×Str)→Option (Str×Str)):Str→Option (Str×Str):=fun x14=>
 (lidx l1 i7).bind fun u15=>
 (w68 u15 x14 x9).bind fun(r18,r19)=>
 again10 (IntKind.wrap .i64 (i7+1),r18,r19)
def Z1i(l1:List Cmd)(by2:Str)(w68:Y7)(again10:(Int×Str×Str)→Option (Str×Str)):(Int×Str×Str)→Option (Str×Str):=fun(i7,x8,x9)=>
 (bif decide (i7<(l1.length:Int))then
  (bif decide (0<i7)then
   (F112 by2 x8 x9).bind fun x24=>
   Z1h l1 i7 w68 x9 again10 x24
  else
   Z1h l1 i7 w68 x9 again10 x8)
 else
  some (x8,x9))
def F113(w68:Y7)(l1:List Cmd)(by2:Str)(x3:Str)(x4:Str):Option (Str×Str):=
 iter (Z1i l1 by2 w68) BIG (0,x3,x4)
def S113(F:(List Cmd)→Str→Str→Str→Option (Str×Str)):Spec:=mkS 113 (α:=(List Cmd)×Str×Str×Str) (ρ:=Str×Str) (fun(a,b,c,d)=>F a b c d) (fun(a,b,c,d)=>([.ref 0 0,.pv (.slice (List.map Cmd.pv a)),as_ b],[.var [as_ c,as_ d]])) (fun(a,b,c,d) (e,f)=>.ret [] [.var [as_ e,as_ f]])
def Z1g(c1:Cmd)(w158:Y6)(w68:Y7)(again20:(Int×Str×Str)→Option (Str×Str)):(Int×Str×Str)→Option (Str×Str):=fun(i17,x18,x19)=>
 (bif decide (i17<(c1.words_.length:Int))then
  (F112 [32] x18 x19).bind fun x24=>
  (lidx c1.words_ i17).bind fun u28=>
  (w158 u28 x24 x19).bind fun(r31,r32)=>
  again20 (IntKind.wrap .i64 (i17+1),r31,r32)
 else
  (F112 [41,32] x18 x19).bind fun x36=>
  (lidx c1.kids_ 0).bind fun u40=>
  (w68 u40 x36 x19).bind fun(r43,r44)=>
  some (r43,r44))
def Z1f(c1:Cmd)(w158:Y6)(w68:Y7)(again71:(Int×Str×Str)→Option (Str×Str)):(Int×Str×Str)→Option (Str×Str):=fun(i68,x69,x70)=>
 (bif decide (i68<(c1.kids_.length:Int))then
  (F112 [99,97,115,101,32] x69 x70).bind fun x75=>
  (lidx c1.kids_ i68).bind fun u79=>
  (F110 w158 u79.words_ x75 x70).bind fun(x82,x83)=>
  (F69 x82 x83).bind fun(x87,x88)=>
  (F37 w68 u79.kids_ x87 x88).bind fun(x92,x93)=>
  again71 (IntKind.wrap .i64 (i68+1),x92,x93)
 else
  (F112 [125] x69 x70).bind fun x97=>
  some (x97,x70))
def F114(w68:Y7)(w158:Y6)(c1:Cmd)(x2:Str)(x3:Str):Option (Str×Str):=
 (bif decide (c1.kind_=10)then
  (catO [102,111,114,40] c1.name_).bind fun s7=>
  (catO s7 [32,105,110]).bind fun s10=>
  (F112 s10 x2 x3).bind fun x13=>
  iter (Z1g c1 w158 w68) BIG (0,x13,x3)
 else
  (bif decide (c1.kind_=17)then
   (F112 [115,119,105,116,99,104,32] x2 x3).bind fun x50=>
   (F110 w158 c1.words_ x50 x3).bind fun(x54,x55)=>
   (F112 [32,123] x54 x55).bind fun x59=>
   (F69 x59 x55).bind fun(x63,x64)=>
   iter (Z1f c1 w158 w68) BIG (0,x63,x64)
  else
   (bif decide (c1.kind_=15)then
    (catO [102,110,32] c1.name_).bind fun s103=>
    (F112 s103 x2 x3).bind fun x106=>
    (bif decide (0<(c1.kids_.length:Int))then
     (F112 [32] x106 x3).bind fun x111=>
     (F111 w68 [123] c1.kids_ [125] x111 x3).bind fun(x115,x116)=>
     some (x115,x116)
    else
     some (x106,x3))
   else
    (F112 [126,32] x2 x3).bind fun x120=>
    (F110 w158 c1.words_ x120 x3).bind fun(x124,x125)=>
    some (x124,x125))))
def SQ22(n:FuncId)(F:Cmd→Str→Str→Option (Str×Str)):Spec:=mkS n (α:=Cmd×Str×Str) (ρ:=Str×Str) (fun(a,b,c)=>F a b c) (fun(a,b,c)=>([.ref 0 0,.pv (.agg [.int .i64 a.kind_,.int .i64 a.at_,.str a.name_,.slice (List.map Word.pv a.words_),.slice (List.map Redir.pv a.redirs_),.slice (List.map Cmd.pv a.kids_)])],[.var [as_ b,as_ c]])) (fun(a,b,c) (d,e)=>.ret [] [.var [as_ d,as_ e]])
def S114:=SQ22 114
def F159(n1:Int):Option Str:=
 (bif decide (n1<10)then
  some [b8 (IntKind.wrap .u8 (IntKind.wrap .i64 (48+n1)))]
 else
  some [b8 (IntKind.wrap .u8 (IntKind.wrap .i64 (48+(IntKind.wrap .i64 (Int.tdiv n1 10))))),b8 (IntKind.wrap .u8 (IntKind.wrap .i64 (48+(Int.tmod n1 10))))])
def S159:=SQ21 159
def Z1a(doc1:Str)(m7:Str)(again4:(Int)→Option Str)(n3:Int)(again19:(Int×Bool×Int)→Option Str):(Int×Bool×Int)→Option Str:=fun(from16,hit17,i18)=>
 (bif decide (i18<(doc1.length:Int))then
  (sidx doc1 i18).bind fun c23=>
  (bif decide (c23=10)then
   (Q0d (!hit17) (Q1o doc1 from16 i18)).bind fun t27=>
   again19 (IntKind.wrap .i64 (i18+1),(hit17||decide (t27=m7)),IntKind.wrap .i64 (i18+1))
  else
   again19 (from16,hit17,IntKind.wrap .i64 (i18+1)))
 else
  (bif !hit17 then
   some m7
  else
   again4 (IntKind.wrap .i64 (n3+1))))
def Z1b(n3:Int)(doc1:Str)(again4:(Int)→Option Str)(again9:(Str×Int)→Option Str):(Str×Int)→Option Str:=fun(m7,i8)=>
 (bif decide (i8<n3)then
  (catO m7 [69]).bind fun s13=>
  again9 (s13,IntKind.wrap .i64 (i8+1))
 else
  iter (Z1a doc1 m7 again4 n3) BIG (0,false,0))
def Z9e(doc1:Str)(again4:Int→Option Str):Int→Option Str:=fun n3=>
 iter (Z1b n3 doc1 again4) BIG ([],0)
def F160(doc1:Str):Option Str:=
 iter (Z9e doc1) BIG 1
def S160:=SQ17 160
def Z1e(x3:Str)(w158:Y6)(d1:Redir):Str→Option (Str×Str):=fun x8=>
 (F112 [32] x8 x3).bind fun x9=>
 (w158 d1.word_ x9 x3).bind fun(r13,r14)=>
 some (r13,r14)
def Q7k(d1:Redir)(x3:Str)(w158:Y6):(Int×Str)→Option (Str×Str):=fun(usual6,x7)=>
 (bif !decide (d1.fd_=usual6)then
  (F159 d1.fd_).bind fun r19=>
  (catO [91] r19).bind fun s22=>
  (catO s22 [93]).bind fun s25=>
  (F112 s25 x7 x3).bind fun x28=>
  Z1e x3 w158 d1 x28
 else
  Z1e x3 w158 d1 x7)
def F115(w158:Y6)(d1:Redir)(x2:Str)(x3:Str):Option (Str×Str):=
 (bif decide (d1.kind_=5)then
  (F159 d1.fd_).bind fun r33=>
  (catO [62,91] r33).bind fun s36=>
  (catO s36 [61]).bind fun s39=>
  (F159 d1.from_).bind fun r42=>
  (catO s39 r42).bind fun s45=>
  (catO s45 [93]).bind fun s48=>
  (F112 s48 x2 x3).bind fun x51=>
  some (x51,x3)
 else
  (bif decide (d1.kind_=6)then
   (F159 d1.fd_).bind fun r56=>
   (catO [62,91] r56).bind fun s59=>
   (catO s59 [61,93]).bind fun s62=>
   (F112 s62 x2 x3).bind fun x65=>
   some (x65,x3)
  else
   (bif decide (d1.kind_=4)then
    (F160 d1.word_.text_).bind fun r70=>
    (catO x3 d1.word_.text_).bind fun s73=>
    (catO s73 r70).bind fun s76=>
    (catO s76 [10]).bind fun s79=>
    (bif d1.raw_ then
     (catO [39] r70).bind fun s83=>
     (catO s83 [39]).bind fun s86=>
     (catO [60,60] s86).bind fun s89=>
     (F112 s89 x2 s79).bind fun x92=>
     some (x92,s79)
    else
     (catO [60,60] r70).bind fun s96=>
     (F112 s96 x2 s79).bind fun x99=>
     some (x99,s79))
   else
    (bif decide (d1.kind_=1)then
     (F112 [60] x2 x3).bind fun x104=>
     Q7k d1 x3 w158 (0,x104)
    else
     (bif decide (d1.kind_=2)then
      (F112 [62] x2 x3).bind fun x109=>
      Q7k d1 x3 w158 (1,x109)
     else
      (F112 [62,62] x2 x3).bind fun x113=>
      Q7k d1 x3 w158 (1,x113))))))
def S115(F:Redir→Str→Str→Option (Str×Str)):Spec:=mkS 115 (α:=Redir×Str×Str) (ρ:=Str×Str) (fun(a,b,c)=>F a b c) (fun(a,b,c)=>([.ref 0 0,.pv (.agg [.int .i64 a.kind_,.int .i64 a.fd_,.int .i64 a.from_,.int .i64 a.word_.kind_,.str a.word_.text_,.str a.word_.quoted_,.slice (List.map Word.pv a.word_.words_),.slice (List.map Cmd.pv a.word_.cmd_),.bool a.raw_])],[.var [as_ b,as_ c]])) (fun(a,b,c) (d,e)=>.ret [] [.var [as_ d,as_ e]])
def J1r(c1:Cmd)(i8:Int)(w158:Y6)(x10:Str)(again11:(Int×Str×Str)→Option (Str×Str)):Str→Option (Str×Str):=fun x15=>
 (lidx c1.redirs_ i8).bind fun u16=>
 (F115 w158 u16 x15 x10).bind fun(x19,x20)=>
 again11 (IntKind.wrap .i64 (i8+1),x19,x20)
def Z6v(c1:Cmd)(w158:Y6)(again11:(Int×Str×Str)→Option (Str×Str)):(Int×Str×Str)→Option (Str×Str):=fun(i8,x9,x10)=>
 (bif decide (i8<(c1.redirs_.length:Int))then
  (bif ((decide (0<i8)||decide (c1.kind_=12))||decide (0<(c1.words_.length:Int)))then
   (F112 [32] x9 x10).bind fun x25=>
   J1r c1 i8 w158 x10 again11 x25
  else
   J1r c1 i8 w158 x10 again11 x9)
 else
  some (x9,x10))
def Q3i(c1:Cmd)(w158:Y6):(Str×Str)→Option (Str×Str):=fun(x6,x7)=>
 iter (Z6v c1 w158) BIG (0,x6,x7)
def Z6u(c1:Cmd)(w68:Y7)(x3:Str)(w158:Y6):Str→Option (Str×Str):=fun x113=>
 (lidx c1.kids_ 0).bind fun u114=>
 (F111 w68 [40] u114.kids_ [41] x113 x3).bind fun(x117,x118)=>
 (F112 [32] x117 x118).bind fun x122=>
 (lidx c1.kids_ 1).bind fun u126=>
 (w68 u126 x122 x118).bind fun(r129,r130)=>
 Q3i c1 w158 (r129,r130)
def F68(w68:Y7)(w158:Y6)(c1:Cmd)(x2:Str)(x3:Str):Option (Str×Str):=
 (bif decide (c1.kind_=1)then
  (F110 w158 c1.words_ x2 x3).bind fun(x31,x32)=>
  Q3i c1 w158 (x31,x32)
 else
  (bif decide (c1.kind_=12)then
   (F111 w68 [123] c1.kids_ [125] x2 x3).bind fun(x37,x38)=>
   Q3i c1 w158 (x37,x38)
  else
   (bif decide (c1.kind_=2)then
    (catO c1.name_ [61]).bind fun s43=>
    (F112 s43 x2 x3).bind fun x46=>
    (F110 w158 c1.words_ x46 x3).bind fun(x50,x51)=>
    (bif decide (0<(c1.kids_.length:Int))then
     (F112 [32] x50 x51).bind fun x56=>
     (lidx c1.kids_ 0).bind fun u60=>
     (w68 u60 x56 x51).bind fun(r63,r64)=>
     Q3i c1 w158 (r63,r64)
    else
     Q3i c1 w158 (x50,x51))
   else
    (bif decide (c1.kind_=7)then
     (F112 [33,32] x2 x3).bind fun x69=>
     (lidx c1.kids_ 0).bind fun u73=>
     (w68 u73 x69 x3).bind fun(r76,r77)=>
     Q3i c1 w158 (r76,r77)
    else
     (bif decide (c1.kind_=13)then
      (F112 [64,32] x2 x3).bind fun x82=>
      (lidx c1.kids_ 0).bind fun u86=>
      (w68 u86 x82 x3).bind fun(r89,r90)=>
      Q3i c1 w158 (r89,r90)
     else
      (bif decide (c1.kind_=9)then
       (F112 [105,102,32,110,111,116,32] x2 x3).bind fun x95=>
       (lidx c1.kids_ 0).bind fun u99=>
       (w68 u99 x95 x3).bind fun(r102,r103)=>
       Q3i c1 w158 (r102,r103)
      else
       (bif (bif decide (c1.kind_=8)then decide (c1.kind_=8)else decide (c1.kind_=11))then
        (F112 [105,102] x2 x3).bind fun x109=>
        (bif decide (c1.kind_=11)then
         (Q1o x109 0 (IntKind.wrap .i64 ((x109.length:Int)-2))).bind fun t135=>
         (F112 [119,104,105,108,101] t135 x3).bind fun x138=>
         Z6u c1 w68 x3 w158 x138
        else
         Z6u c1 w68 x3 w158 x109)
       else
        (bif decide (c1.kind_=3)then
         (F113 w68 c1.kids_ [32,124,32] x2 x3).bind fun(x143,x144)=>
         Q3i c1 w158 (x143,x144)
        else
         (bif decide (c1.kind_=5)then
          (F113 w68 c1.kids_ [32,38,38,32] x2 x3).bind fun(x149,x150)=>
          Q3i c1 w158 (x149,x150)
         else
          (bif decide (c1.kind_=6)then
           (F113 w68 c1.kids_ [32,124,124,32] x2 x3).bind fun(x155,x156)=>
           Q3i c1 w158 (x155,x156)
          else
           (bif decide (c1.kind_=14)then
            (lidx c1.kids_ 0).bind fun u161=>
            (w68 u161 x2 x3).bind fun(r164,r165)=>
            (F112 [32,38] r164 r165).bind fun x169=>
            Q3i c1 w158 (x169,r165)
           else
            (F114 w68 w158 c1 x2 x3).bind fun(x173,x174)=>
            Q3i c1 w158 (x173,x174))))))))))))
def S68:=SQ22 68
def Q8s(w1:Word)(i5:Int)(again6:(Str×Int)→Option Str):Str→Option Str:=fun s17=>
 (sidx w1.quoted_ i5).bind fun c18=>
 (Q0d (decide (c18=49)&&!(decide (IntKind.wrap .i64 (i5+1)=(w1.text_.length:Int)))) (sidx w1.quoted_ (IntKind.wrap .i64 (i5+1)))).bind fun c21=>
 (bif (decide (c18=49)&&(decide (IntKind.wrap .i64 (i5+1)=(w1.text_.length:Int))||decide (c21=48)))then
  (catO s17 [39]).bind fun s25=>
  again6 (s25,IntKind.wrap .i64 (i5+1))
 else
  again6 (s17,IntKind.wrap .i64 (i5+1)))
def Q8t(w1:Word)(i5:Int)(again6:(Str×Int)→Option Str):Str→Option Str:=fun s10=>
 (Q1o w1.text_ i5 (IntKind.wrap .i64 (i5+1))).bind fun t11=>
 (catO s10 t11).bind fun s14=>
 (sidx w1.quoted_ i5).bind fun c28=>
 (Q0d (decide (c28=49)) (sidx w1.text_ i5)).bind fun c31=>
 (bif (decide (c28=49)&&decide (c31=39))then
  (catO s14 [39]).bind fun s35=>
  Q8s w1 i5 again6 s35
 else
  Q8s w1 i5 again6 s14)
def Q3j(w1:Word)(again6:(Str×Int)→Option Str):(Str×Int)→Option Str:=fun(s4,i5)=>
 (bif decide (i5<(w1.text_.length:Int))then
  (sidx w1.quoted_ i5).bind fun c38=>
  (Q0d (decide (c38=49)&&!(decide (i5=0))) (sidx w1.quoted_ (IntKind.wrap .i64 (i5-1)))).bind fun c41=>
  (bif (decide (c38=49)&&(decide (i5=0)||decide (c41=48)))then
   (catO s4 [39]).bind fun s45=>
   Q8t w1 i5 again6 s45
  else
   Q8t w1 i5 again6 s4)
 else
  some s4)
def F193(w1:Word):Option Str:=
 (bif decide (w1.text_=[])then
  some [39,39]
 else
  iter (Q3j w1) BIG ([],0))
def S193(F:Word→Option (Str)):Spec:=mkS 193 (α:=Word) (ρ:=Str) F (fun a=>([.pv (.agg [.int .i64 a.kind_,.str a.text_,.str a.quoted_,.slice (List.map Word.pv a.words_),.slice (List.map Cmd.pv a.cmd_)])],[])) (fun a b=>.ret [as_ b] [])
def Z1c(x1:Word)(i74:Int)(w158:Y6)(x76:Str)(again77:(Int×Str×Str)→Option (Str×Str)):Str→Option (Str×Str):=fun x81=>
 (lidx x1.words_ i74).bind fun u82=>
 (w158 u82 x81 x76).bind fun(r85,r86)=>
 again77 (IntKind.wrap .i64 (i74+1),r85,r86)
def Q8v(x1:Word)(w158:Y6)(again77:(Int×Str×Str)→Option (Str×Str)):(Int×Str×Str)→Option (Str×Str):=fun(i74,x75,x76)=>
 (bif decide (i74<(x1.words_.length:Int))then
  (bif decide (0<i74)then
   (F112 [94] x75 x76).bind fun x91=>
   Z1c x1 i74 w158 x76 again77 x91
  else
   Z1c x1 i74 w158 x76 again77 x75)
 else
  some (x75,x76))
def F158(w68:Y7)(w158:Y6)(x1:Word)(x2:Str)(x3:Str):Option (Str×Str):=
 (bif decide (x1.kind_=1)then
  (F193 x1).bind fun r7=>
  (F112 r7 x2 x3).bind fun x10=>
  some (x10,x3)
 else
  (bif decide (x1.kind_=2)then
   (catO [36] x1.text_).bind fun s15=>
   (F112 s15 x2 x3).bind fun x18=>
   some (x18,x3)
  else
   (bif decide (x1.kind_=3)then
    (catO [36,35] x1.text_).bind fun s23=>
    (F112 s23 x2 x3).bind fun x26=>
    some (x26,x3)
   else
    (bif decide (x1.kind_=7)then
     (catO [36] x1.text_).bind fun s31=>
     (catO s31 [40]).bind fun s34=>
     (F112 s34 x2 x3).bind fun x37=>
     (F110 w158 x1.words_ x37 x3).bind fun(x41,x42)=>
     (F112 [41] x41 x42).bind fun x46=>
     some (x46,x42)
    else
     (bif decide (x1.kind_=5)then
      (F112 [40] x2 x3).bind fun x51=>
      (F110 w158 x1.words_ x51 x3).bind fun(x55,x56)=>
      (F112 [41] x55 x56).bind fun x60=>
      some (x60,x56)
     else
      (bif decide (x1.kind_=6)then
       (F112 [96] x2 x3).bind fun x65=>
       (F111 w68 [123] x1.cmd_ [125] x65 x3).bind fun(x69,x70)=>
       some (x69,x70)
      else
       iter (Q8v x1 w158) BIG (0,x2,x3)))))))
def S158(F:Word→Str→Str→Option (Str×Str)):Spec:=mkS 158 (α:=Word×Str×Str) (ρ:=Str×Str) (fun(a,b,c)=>F a b c) (fun(a,b,c)=>([.ref 0 0,.pv (.agg [.int .i64 a.kind_,.str a.text_,.str a.quoted_,.slice (List.map Word.pv a.words_),.slice (List.map Cmd.pv a.cmd_)])],[.var [as_ b,as_ c]])) (fun(a,b,c) (d,e)=>.ret [] [.var [as_ d,as_ e]])
mutual
def K68:Nat→Cmd→Str→Str→Option (Str×Str)
 | 0=>fun _ _ _=>none
 | n+1=>F68 (K68 n) (K158 n)
def K158:Nat→Word→Str→Str→Option (Str×Str)
 | 0=>fun _ _ _=>none
 | n+1=>F158 (K68 n) (K158 n)
end
def F18(l1:List Cmd):Option (Str×Int):=
 (F14 l1).bind fun r4=>
 (bif !r4 then
  some ([],1)
 else
  (F37 (K68 BIG) l1 [] []).bind fun(x8,x9)=>
  some (x8,0))
def S18:=SQ19 18
def F5(l1:List Cmd):Option Bool:=
 (F12 l1).bind fun r3=>
 (bif !r3 then
  (F7).bind fun r7=>
  some r7
 else
  (F17 l1).bind fun(r10,r11)=>
  (F18 l1).bind fun(r14,r15)=>
  (Q0d (decide (r10=r14)&&decide (r11=r15)) (F7)).bind fun r18=>
  some ((decide (r10=r14)&&decide (r11=r15))&&r18))
def S5:=SQ0 5
end Go.Abs.U48
