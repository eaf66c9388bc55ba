import Derived.Test.YtljahlbklgnfhaaGreatDoorLB
set_option linter.unusedVariables false
set_option linter.defProp false
namespace Go.Abs.U48
open Go.RowKit Go.Proofs
abbrev Y0:=Bool->Str->(List Token)->(List Str)->Int->Option (Int ⊕ (Cmd×Int))
abbrev Y1:=Str->(List Token)->(List Str)->Int->Option (Int ⊕ (Word×Int))
abbrev Y2:=Word->Str->(List Redir)->Option (Str×(List Redir))
abbrev Y3:=Word->Option (Bool)
abbrev Y4:=Cmd->Option (Bool)
abbrev Y5:=Cmd->Str->(List Redir)->Option (Str×(List Redir))
abbrev Y6:=(List Cmd)->Option (Int)
abbrev Y7:=(List Word)->Option (Int)
abbrev Y8:=Word->Option (Int)
abbrev Y9:=(List Word)->(List Word)->Option (Bool)
abbrev Y10:=(List Cmd)->(List Cmd)->Option (Bool)
abbrev Y11:=(List Word)->Int->Option (Int)
abbrev Y12:=(List Cmd)->Int->Option (Int)
abbrev Y13:=Cmd->Option (Int)
abbrev V0(x:Redir):AObj:=AObj.var [.pv (.int .i64 x.kind_),.pv (.int .i64 x.fd_),.pv (.int .i64 x.from_),.pv (.int .i64 x.word_.kind_),.pv (.str x.word_.text_),.pv (.str x.word_.quoted_),.pv (.slice (List.map Word.pv x.word_.words_)),.pv (.slice (List.map Cmd.pv x.word_.cmd_)),.pv (.bool x.raw_)]
abbrev V1(x:Cmd):AObj:=AObj.var [.pv (.int .i64 x.kind_),.pv (.int .i64 x.at_),.pv (.str x.name_),.pv (.slice (List.map Word.pv x.words_)),.pv (.slice (List.map Redir.pv x.redirs_)),.pv (.slice (List.map Cmd.pv x.kids_))]
abbrev V2(x:Word):AObj:=AObj.var [.pv (.int .i64 x.kind_),.pv (.str x.text_),.pv (.str x.quoted_),.pv (.slice (List.map Word.pv x.words_)),.pv (.slice (List.map Cmd.pv x.cmd_))]
abbrev V3(x:Redir):AObj:=AObj.var [.pv (.int .i64 x.word_.kind_),.pv (.str x.word_.text_),.pv (.str x.word_.quoted_),.pv (.slice (List.map Word.pv x.word_.words_)),.pv (.slice (List.map Cmd.pv x.word_.cmd_))]
abbrev V4(a:Int)(b d:Str)(e:List Word)(f:List Cmd):AObj:=AObj.var [.pv (.int .i64 a),.pv (.str b),.pv (.str d),.pv (.slice (List.map Word.pv e)),.pv (.slice (List.map Cmd.pv f))]
abbrev V6(a:Str)(b:Int)(d e:Nat)(f g i:Int):AObj:=AObj.var [.pv (.str a),.pv (.int .i64 b),.vec 1 d,.vec 2 e,.pv (.int .i64 f),.pv (.int .i64 g),.pv (.int .i64 i)]
abbrev V7(x:Token):AObj:=AObj.var [.pv (.int .i64 x.kind_),.pv (.int .i64 x.at_),.pv (.str x.text_),.pv (.str x.quoted_)]
abbrev V8(a:Str)(b:Int)(d:Nat)(e f g:Int):AObj:=AObj.var [.pv (.str a),.pv (.int .i64 b),.vec 1 d,.nils,.pv (.int .i64 e),.pv (.int .i64 f),.pv (.int .i64 g)]
abbrev V9(x:Token):PV:=PV.agg [.int .i64 x.kind_,.int .i64 x.at_,.str x.text_,.str x.quoted_]
abbrev V10(a:Str)(b:List Token)(d:List Str)(e:Int):AObj:=AObj.var [.pv (.str a),.pv (.slice (List.map Token.pv b)),.pv (.slice (List.map PV.str d)),.pv (.int .i64 e)]
abbrev V11(a b:Int)(d:Str):AObj:=AObj.var [.pv (.int .i64 a),.pv (.int .i64 b),.pv (.str d),.nils,.nils,.nils]
abbrev V12(a b:Int)(d:Str)(e:List Word)(f:List Redir)(g:List Cmd):AObj:=AObj.var [.pv (.int .i64 a),.pv (.int .i64 b),.pv (.str d),.pv (.slice (List.map Word.pv e)),.pv (.slice (List.map Redir.pv f)),.pv (.slice (List.map Cmd.pv g))]
abbrev V13(x:Cmd):PV:=PV.agg [.int .i64 x.kind_,.int .i64 x.at_,.str x.name_,.slice (List.map Word.pv x.words_),.slice (List.map Redir.pv x.redirs_),.slice (List.map Cmd.pv x.kids_)]
abbrev V14(x:Word):PV:=PV.agg [.int .i64 x.kind_,.str x.text_,.str x.quoted_,.slice (List.map Word.pv x.words_),.slice (List.map Cmd.pv x.cmd_)]
abbrev V15(a b d e:Int)(f g:Str)(i:Bool):AObj:=AObj.var [.pv (.int .i64 a),.pv (.int .i64 b),.pv (.int .i64 d),.pv (.int .i64 e),.pv (.str f),.pv (.str g),.nils,.nils,.pv (.bool i)]
abbrev V16(a b:Int)(d:Str)(e:List Cmd):AObj:=AObj.var [.pv (.int .i64 a),.pv (.int .i64 b),.pv (.str d),.nils,.nils,.pv (.slice (List.map Cmd.pv e))]
abbrev V17(a b:Int)(d:Str)(e:Nat)(f:List Cmd):AObj:=AObj.var [.pv (.int .i64 a),.pv (.int .i64 b),.pv (.str d),.nils,.vec 3 e,.pv (.slice (List.map Cmd.pv f))]
abbrev V18(a b:Int)(d:Str)(e:Nat):AObj:=AObj.var [.pv (.int .i64 a),.pv (.int .i64 b),.pv (.str d),.vec 3 e,.nils,.nils]
abbrev V19(x:Redir):PV:=PV.agg [.int .i64 x.kind_,.int .i64 x.fd_,.int .i64 x.from_,.int .i64 x.word_.kind_,.str x.word_.text_,.str x.word_.quoted_,.slice (List.map Word.pv x.word_.words_),.slice (List.map Cmd.pv x.word_.cmd_),.bool x.raw_]
abbrev V20(a b:Int)(d:Str)(e f:Nat):AObj:=AObj.var [.pv (.int .i64 a),.pv (.int .i64 b),.pv (.str d),.vec 3 e,.vec 4 f,.nils]
abbrev V21(a:Int)(b d:Str):AObj:=AObj.var [.pv (.int .i64 a),.pv (.str b),.pv (.str d),.nils,.nils]
abbrev V22(a b:Nat):AObj:=AObj.var [.selfp 0,.vec 1 a,.vec 2 b]
abbrev vC(x:List Cmd):AV:=.pv (.slice (List.map Cmd.pv x))
abbrev vRe(x:List Redir):AV:=.pv (.slice (List.map Redir.pv x))
abbrev vTo(x:List Token):AV:=.pv (.slice (List.map Token.pv x))
abbrev vWo(x:List Word):AV:=.pv (.slice (List.map Word.pv x))
abbrev rSt(x:List Str):AObj:=.row 9 1 (List.map PV.str x) true
abbrev rTo(x:List Token):AObj:=.row 87 4 (List.map Token.pv x) true
abbrev rRe(x:List Redir):AObj:=.row 51 9 (List.map Redir.pv x) true
abbrev rWo(x:List Word):AObj:=.row 49 5 (List.map Word.pv x) true
abbrev rCm(x:List Cmd):AObj:=.row 36 6 (List.map Cmd.pv x) true
def X5w(F:Str->Option (Str)):Spec:=mkS 36 F (λb=>([.ref 0 0],[.bld b])) (λb s=>.ret [as_ s] [.gone])
def Z9h:Spec:=X5w Q4i
def J4d(F:Str->Int->Option (Int)):Spec:=mkS 40 (un2 F) (λ(s,c)=>([as_ s,.pv (.int .u8 c)],[])) (λ(s,c) n=>.ret [ai n] [])
def Q0z:Spec:=J4d Q0h
def K5o(F:(List Str)->Str->Option (Str)):Spec:=mkS 119 (un2 F) (λ(xs,a)=>([.pv (.slice (List.map PV.str xs)),as_ a],[])) (λ(xs,a) s=>.ret [as_ s] [])
def K1g:Spec:=K5o J6z
def J4a(F:Str->Int->Option (Str)):Spec:=mkS 121 (un2 F) (λ(b,c)=>([.ref 0 0,.pv (.int .u8 c)],[.bld b])) (λ(b,c) d=>.ret [.pv (.nil)] [.bld d])
def Q9m:Spec:=J4a Q2g
def Z9g(F:Str->Str->Option (Int×Str)):Spec:=mkS 123 (un2 F) (λ(b,s)=>([.ref 0 0,as_ s],[.bld b])) (λ(b,s) (n,c)=>.ret [ai n,.pv (.nil)] [.bld c])
def Q7b:Spec:=Z9g Q1n
def X5x(F:Str->Int->Option (Str)):Spec:=mkS 124 (un2 F) (λ(s,n)=>([as_ s,ai n],[])) (λ(s,n) t=>.ret [as_ t] [])
def Z3f:Spec:=X5x Q2u
def K1f(F:Str->Str->Option ((List Str))):Spec:=mkS 156 (un2 F) (λ(s,a)=>([as_ s,as_ a],[])) (λ(s,a) l=>.ret [.pv (.slice (List.map PV.str l))] [])
def X2v:Spec:=K1f Z4i
def J6v(F:(List Str)->Str->Option (Bool)):Spec:=mkS 157 (un2 F) (λ(xs,s)=>([.pv (.slice (List.map PV.str xs)),as_ s],[])) (λ(xs,s) ok=>.ret [ab ok] [])
def Z9i:Spec:=J6v Z0h
def V2j(F:Str->Str->Option (Str×Str×Bool)):Spec:=mkS 161 (un2 F) (λ(s,d)=>([as_ s,as_ d],[])) (λ(s,d) (a,b,ok)=>.ret [as_ a,as_ b,ab ok] [])
def X2w:Spec:=V2j Z9k
def J4b(F:Str->Str->Option (Bool)):Spec:=mkS 169 (un2 F) (λ(s,p)=>([as_ s,as_ p],[])) (λ(s,p) ok=>.ret [ab ok] [])
def Z5t:Spec:=J4b Q6b
def K5p(F:Int->Option (Str)):Spec:=mkS 189 F (λn=>([ai n],[])) (λn s=>.ret [as_ s] [])
def J4c:Spec:=K5p Q4z
def K5q(F:Str->Option (Int×Bool)):Spec:=mkS 199 F (λs=>([as_ s],[])) (λs (n,a)=>.ret [ai n,.pv ((bif a then PV.ifc else PV.nil))] [])
def J9l:Spec:=K5q Z3g
def J0s(F:Str->Str->Str->Option (Str)):Spec:=mkS 216 (un3 F) (λ(s,a,b)=>([as_ s,as_ a,as_ b],[])) (λ(s,a,b) t=>.ret [as_ t] [])
def Z3e:Spec:=J0s Q2p
def J1z(d:Cmd)(e:Y11)(f:(Int×Int)->Option Int)(g:Int)(i:(Int×Int)->Option Int):(Int×Int)->Option Int:=λ(a,b)=>
 (bif decide (b<(d.redirs_.length:Int))then
  (lidx d.redirs_ b).bind λj=>
  (e [j.word_] a).bind λl=>
  i (l,IntKind.wrap .i64 (b+1))
 else
  (bif decide (a<0)then
   some (-1)
  else
   f (a,IntKind.wrap .i64 (g+1))))
def Z9q(d:List Cmd)(f:Y11)(i:Y12)(j:(Int×Int)->Option Int):(Int×Int)->Option Int:=λ(a,b)=>
 (bif decide (b<(d.length:Int))then
  (Q0e (!(decide (IntKind.wrap .i64 (a-1)<0))) (lidx d b)).bind λg=>
  (bif ((decide (IntKind.wrap .i64 (a-1)<0)||decide (2000<(g.name_.length:Int)))||decide (IntKind.wrap .i64 (a-1)<(g.redirs_.length:Int)))then
   some (-1)
  else
   (lidx d b).bind λe=>
   (f e.words_ (IntKind.wrap .i64 (a-1))).bind λl=>
   (i e.kids_ l).bind λm=>
   iter (J1z e f j b) BIG (m,0))
 else
  some a)
def F28(b:Y12)(d:Y11)(e:List Cmd)(a:Int):Option Int:=
 (bif decide (a<0)then
  some (-1)
 else
  iter (Z9q e d b) BIG (a,0))
def S28(F:(List Cmd)->Int->Option (Int)):Spec:=mkS 28 (un2 F) (λ(a,b)=>([.pv (.slice (List.map Cmd.pv a)),ai b],[])) (λ(a,b) c=>.ret [ai c] [])
def J1y(d:List Word)(i:Y11)(j:Y12)(l:(Int×Int)->Option Int):(Int×Int)->Option Int:=λ(a,b)=>
 (bif decide (b<(d.length:Int))then
  (Q0e (!(decide (IntKind.wrap .i64 (a-1)<0))) (lidx d b)).bind λe=>
  (bif ((decide (IntKind.wrap .i64 (a-1)<0)||decide (2000<(e.text_.length:Int)))||decide (2000<(e.quoted_.length:Int)))then
   some (-1)
  else
   (lidx d b).bind λf=>
   (i f.words_ (IntKind.wrap .i64 (a-1))).bind λm=>
   (j f.cmd_ m).bind λg=>
   (bif decide (g<0)then
    some (-1)
   else
    l (g,IntKind.wrap .i64 (b+1))))
 else
  some a)
def F62(a:Y12)(b:Y11)(d:List Word)(e:Int):Option Int:=
 iter (J1y d b a) BIG (e,0)
def S62(F:(List Word)->Int->Option (Int)):Spec:=mkS 62 (un2 F) (λ(a,b)=>([.pv (.slice (List.map Word.pv a)),ai b],[])) (λ(a,b) c=>.ret [ai c] [])
mutual
def K28:Nat->(List Cmd)->Int->Option (Int)
 | 0=>λ_ _=>none
 | n+1=>F28 (K28 n) (K62 n)
def K62:Nat->(List Word)->Int->Option (Int)
 | 0=>λ_ _=>none
 | n+1=>F62 (K28 n) (K62 n)
end
def F12(a:List Cmd):Option Bool:=
 (K28 BIG a 2000).bind λb=>
 some (decide (0<=b))
def SQ0(n:FuncId)(F:(List Cmd)->Option (Bool)):Spec:=mkS n F (λa=>([.pv (.slice (List.map Cmd.pv a))],[])) (λa b=>.ret [ab b] [])
def S12:=SQ0 12 F12
def F34(a:Redir):Option (List Word):=
 (bif (decide (a.kind_=5)||decide (a.kind_=6))then
  some []
 else
  some [a.word_])
def S34:Spec:=mkS 34 F34 (λa=>([.pv (PV.agg [.int .i64 a.kind_,.int .i64 a.fd_,.int .i64 a.from_,.int .i64 a.word_.kind_,.str a.word_.text_,.str a.word_.quoted_,.slice (List.map Word.pv a.word_.words_),.slice (List.map Cmd.pv a.word_.cmd_),.bool a.raw_])],[])) (λa b=>.ret [.pv (.slice (List.map Word.pv b))] [])
def X3l(b:Cmd)(e:Y7)(f:(Int×Int)->Option Int)(g:Int)(i:(Int×Int)->Option Int):(Int×Int)->Option Int:=λ(d,a)=>
 (bif decide (a<(b.redirs_.length:Int))then
  (lidx b.redirs_ a).bind λj=>
  (F34 j).bind λl=>
  (e l).bind λm=>
  i (IntKind.wrap .i64 (d+m),IntKind.wrap .i64 (a+1))
 else
  f (d,IntKind.wrap .i64 (g+1)))
def J2e(d:List Cmd)(e:Y7)(g:Y6)(i:(Int×Int)->Option Int):(Int×Int)->Option Int:=λ(f,b)=>
 (bif decide (b<(d.length:Int))then
  (lidx d b).bind λa=>
  (e a.words_).bind λj=>
  (g a.kids_).bind λl=>
  iter (X3l a e i b) BIG (IntKind.wrap .i64 ((IntKind.wrap .i64 ((IntKind.wrap .i64 (f+j))+l))+(a.redirs_.length:Int)),0)
 else
  some f)
def F16(b:Y6)(d:Y7)(a:List Cmd):Option Int:=
 iter (J2e a d b) BIG ((a.length:Int),0)
def SQ1(n:FuncId)(F:(List Cmd)->Option (Int)):Spec:=mkS n F (λa=>([.pv (.slice (List.map Cmd.pv a))],[])) (λa b=>.ret [ai b] [])
def S16:=SQ1 16
def K2a(b:List Word)(f:Y7)(g:Y6)(i:(Int×Int)->Option Int):(Int×Int)->Option Int:=λ(d,a)=>
 (bif decide (a<(b.length:Int))then
  (lidx b a).bind λe=>
  (f e.words_).bind λj=>
  (g e.cmd_).bind λl=>
  i (IntKind.wrap .i64 ((IntKind.wrap .i64 (d+j))+l),IntKind.wrap .i64 (a+1))
 else
  some d)
def F33(b:Y6)(d:Y7)(a:List Word):Option Int:=
 iter (K2a a d b) BIG ((a.length:Int),0)
def SQ2(n:FuncId)(F:(List Word)->Option (Int)):Spec:=mkS n F (λa=>([.pv (.slice (List.map Word.pv a))],[])) (λa b=>.ret [ai b] [])
def S33:=SQ2 33
mutual
def K16:Nat->(List Cmd)->Option (Int)
 | 0=>λ_=>none
 | n+1=>F16 (K16 n) (K33 n)
def K33:Nat->(List Word)->Option (Int)
 | 0=>λ_=>none
 | n+1=>F33 (K16 n) (K33 n)
end
def X3j(b:Cmd)(e:Y7)(f:(Int×Int)->Option Int)(g i:Int)(j:(Int×Int)->Option Int):(Int×Int)->Option Int:=λ(d,a)=>
 (bif decide (a<(b.redirs_.length:Int))then
  (lidx b.redirs_ a).bind λl=>
  (F34 l).bind λm=>
  (e m).bind λn=>
  j (imax d n,IntKind.wrap .i64 (a+1))
 else
  f (imax g (IntKind.wrap .i64 (1+d)),IntKind.wrap .i64 (i+1)))
def J2b(d:List Cmd)(e:Y7)(g:Y6)(i:(Int×Int)->Option Int):(Int×Int)->Option Int:=λ(f,a)=>
 (bif decide (a<(d.length:Int))then
  (lidx d a).bind λb=>
  (e b.words_).bind λj=>
  (g b.kids_).bind λl=>
  iter (X3j b e i f a) BIG (imax j l,0)
 else
  some f)
def F25(a:Y6)(b:Y7)(d:List Cmd):Option Int:=
 iter (J2b d b a) BIG (0,0)
def S25:=SQ1 25
def K1w(b:List Word)(f:Y7)(g:Y6)(i:(Int×Int)->Option Int):(Int×Int)->Option Int:=λ(d,a)=>
 (bif decide (a<(b.length:Int))then
  (lidx b a).bind λe=>
  (f e.words_).bind λj=>
  (g e.cmd_).bind λl=>
  i (imax d (IntKind.wrap .i64 (1+(imax j l))),IntKind.wrap .i64 (a+1))
 else
  some d)
def F61(a:Y6)(b:Y7)(d:List Word):Option Int:=
 iter (K1w d b a) BIG (0,0)
def S61:=SQ2 61
mutual
def K25:Nat->(List Cmd)->Option (Int)
 | 0=>λ_=>none
 | n+1=>F25 (K25 n) (K61 n)
def K61:Nat->(List Word)->Option (Int)
 | 0=>λ_=>none
 | n+1=>F61 (K25 n) (K61 n)
end
def F100(Q0k:Int):Option Int:=
 (bif (bif decide (Q0k=1)then decide (Q0k=1)else(bif decide (Q0k=2)then decide (Q0k=2)else(bif decide (Q0k=7)then decide (Q0k=7)else(bif decide (Q0k=8)then decide (Q0k=8)else(bif decide (Q0k=9)then decide (Q0k=9)else(bif decide (Q0k=10)then decide (Q0k=10)else(bif decide (Q0k=11)then decide (Q0k=11)else(bif decide (Q0k=12)then decide (Q0k=12)else(bif decide (Q0k=13)then decide (Q0k=13)else(bif decide (Q0k=15)then decide (Q0k=15)else(bif decide (Q0k=16)then decide (Q0k=16)else decide (Q0k=17))))))))))))then
  some 1
 else
  (bif decide (Q0k=3)then
   some 2
  else
   (bif (bif decide (Q0k=5)then decide (Q0k=5)else decide (Q0k=6))then
    some 3
   else
    (bif decide (Q0k=14)then
     some 4
    else
     some 0))))
def S100:Spec:=mkS 100 F100 (λa=>([ai a],[])) (λa b=>.ret [ai b] [])
def K1v(d:List Cmd)(e:Int)(g:Y4)(i:Int->Option Bool):Int->Option Bool:=λb=>
 (bif decide (b<(d.length:Int))then
  (lidx d b).bind λf=>
  (F100 f.kind_).bind λa=>
  (Q0e (!(decide (a<1)||decide (e<a))) (g f)).bind λj=>
  (bif ((decide (a<1)||decide (e<a))||!j)then
   some false
  else
   i (IntKind.wrap .i64 (b+1)))
 else
  some true)
def F65(a:Y4)(b:List Cmd)(d:Int):Option Bool:=
 iter (K1v b d a) BIG 0
def S65(d:Y4):Spec:=mkS 65 (un2 (F65 d)) (λ(a,b)=>([.pv (.slice (List.map Cmd.pv a)),ai b],[])) (λ(a,b) c=>.ret [ab c] [])
def F30(a:Y4)(b:List Cmd):Option Bool:=
 (F65 a b 4).bind λd=>
 some d
def S30(a:Y4):=SQ0 30 (F30 a)
def X0c(b:Str)(e:Int->Option Bool):Int->Option Bool:=λd=>
 (bif decide (d<(b.length:Int))then
  (sidx b d).bind λa=>
  (bif !(((((decide (97<=a)&&decide (a<=122))||(decide (65<=a)&&decide (a<=90)))||(decide (48<=a)&&decide (a<=57)))||decide (a=95))||decide (a=42))then
   some false
  else
   e (IntKind.wrap .i64 (d+1)))
 else
  some (!decide (b=[])))
def F172(a:Str):Option Bool:=
 iter (X0c a) BIG 0
def SQ3(n:FuncId)(F:Str->Option (Bool)):Spec:=mkS n F (λa=>([as_ a],[])) (λa b=>.ret [ab b] [])
def S172:=SQ3 172 F172
def F145(a:Cmd):Option Bool:=
 (Q0e ((decide (a.kind_=2)||decide (a.kind_=10))||decide (a.kind_=15)) (F172 a.name_)).bind λb=>
 (bif (((((decide (a.kind_=2)||decide (a.kind_=10))||decide (a.kind_=15))&&!b)||(!((decide (a.kind_=2)||decide (a.kind_=10))||decide (a.kind_=15))&&!decide (a.name_=[])))||((decide (0<(a.redirs_.length:Int))&&!decide (a.kind_=1))&&!decide (a.kind_=12)))then
  some false
 else
  (bif decide (a.kind_=1)then
   some (decide (0<IntKind.wrap .i64 ((a.words_.length:Int)+(a.redirs_.length:Int)))&&decide ((a.kids_.length:Int)=0))
  else
   (bif decide (a.kind_=2)then
    some (decide ((a.words_.length:Int)=1)&&decide ((a.kids_.length:Int)<=1))
   else
    (bif (bif decide (a.kind_=7)then decide (a.kind_=7)else(bif decide (a.kind_=13)then decide (a.kind_=13)else(bif decide (a.kind_=9)then decide (a.kind_=9)else decide (a.kind_=14))))then
     some (decide ((a.words_.length:Int)=0)&&decide ((a.kids_.length:Int)=1))
    else
     (bif (bif decide (a.kind_=8)then decide (a.kind_=8)else(bif decide (a.kind_=11)then decide (a.kind_=11)else(bif decide (a.kind_=5)then decide (a.kind_=5)else decide (a.kind_=6))))then
      some (decide ((a.words_.length:Int)=0)&&decide ((a.kids_.length:Int)=2))
     else
      (bif decide (a.kind_=10)then
       some (decide ((a.kids_.length:Int)=1))
      else
       (bif (bif decide (a.kind_=12)then decide (a.kind_=12)else decide (a.kind_=15))then
        some (decide ((a.words_.length:Int)=0))
       else
        (bif decide (a.kind_=3)then
         some (decide ((a.words_.length:Int)=0)&&decide (2<=(a.kids_.length:Int)))
        else
         (bif decide (a.kind_=16)then
          some (decide (0<(a.words_.length:Int))&&decide ((a.kids_.length:Int)=0))
         else
          some (decide (a.kind_=17)&&decide ((a.words_.length:Int)=1)))))))))))
def SQ4(n:FuncId)(F:Cmd->Option (Bool)):Spec:=mkS n F (λa=>([.pv (PV.agg [.int .i64 a.kind_,.int .i64 a.at_,.str a.name_,.slice (List.map Word.pv a.words_),.slice (List.map Redir.pv a.redirs_),.slice (List.map Cmd.pv a.kids_)])],[])) (λa b=>.ret [ab b] [])
def S145:=SQ4 145 F145
def X0f(b:List Word)(d:Y3)(e:Int->Option Bool):Int->Option Bool:=λa=>
 (bif decide (a<(b.length:Int))then
  (lidx b a).bind λf=>
  (d f).bind λg=>
  (bif !g then
   some false
  else
   e (IntKind.wrap .i64 (a+1)))
 else
  some true)
def F146(a:Y3)(b:List Word):Option Bool:=
 iter (X0f b a) BIG 0
def SQ5(n:FuncId)(F:(List Word)->Option (Bool)):Spec:=mkS n F (λa=>([.pv (.slice (List.map Word.pv a))],[])) (λa b=>.ret [ab b] [])
def S146(a:Y3):=SQ5 146 (F146 a)
def F185(w1:Word):Option Bool:=
 some (((decide (w1.kind_=0)&&decide (w1.text_=[]))&&decide (w1.quoted_=[]))&&decide (IntKind.wrap .i64 ((w1.words_.length:Int)+(w1.cmd_.length:Int))=0))
def SQ6(n:FuncId)(F:Word->Option (Bool)):Spec:=mkS n F (λa=>([.pv (PV.agg [.int .i64 a.kind_,.str a.text_,.str a.quoted_,.slice (List.map Word.pv a.words_),.slice (List.map Cmd.pv a.cmd_)])],[])) (λa b=>.ret [ab b] [])
def S185:=SQ6 185 F185
def Z4t(d:Int)(e:(Str×Int)->Option Str):(Str×Int)->Option Str:=λ(a,b)=>
 (bif decide (b<d)then
  (catO a [48]).bind λf=>
  e (f,IntKind.wrap .i64 (b+1))
 else
  some a)
def F186(a:Int):Option Str:=
 iter (Z4t a) BIG ([],0)
def S186:Spec:=mkS 186 F186 (λa=>([ai a],[])) (λa b=>.ret [as_ b] [])
def F147(d:Y3)(a:Redir):Option Bool:=
 (bif (((((decide (a.fd_<0)||decide (64<=a.fd_))||decide (a.from_<0))||decide (64<=a.from_))||(!decide (a.kind_=5)&&!decide (a.from_=0)))||(!decide (a.kind_=4)&&a.raw_))then
  some false
 else
  (bif (bif decide (a.kind_=1)then decide (a.kind_=1)else(bif decide (a.kind_=2)then decide (a.kind_=2)else decide (a.kind_=3)))then
   (d a.word_).bind λe=>
   some e
  else
   (bif (bif decide (a.kind_=5)then decide (a.kind_=5)else decide (a.kind_=6))then
    (F185 a.word_).bind λf=>
    some f
   else
    (bif decide (a.kind_=4)then
     (Q0e (decide (a.fd_=0)&&decide (a.word_.kind_=1)) (F186 (a.word_.text_.length:Int))).bind λb=>
     (Q0e ((((decide (a.fd_=0)&&decide (a.word_.kind_=1))&&decide (a.word_.quoted_=b))&&decide (IntKind.wrap .i64 ((a.word_.words_.length:Int)+(a.word_.cmd_.length:Int))=0))&&!(decide ((a.word_.text_.length:Int)=0))) (sidx a.word_.text_ (IntKind.wrap .i64 ((a.word_.text_.length:Int)-1)))).bind λg=>
     some ((((decide (a.fd_=0)&&decide (a.word_.kind_=1))&&decide (a.word_.quoted_=b))&&decide (IntKind.wrap .i64 ((a.word_.words_.length:Int)+(a.word_.cmd_.length:Int))=0))&&(decide ((a.word_.text_.length:Int)=0)||decide (g=10)))
    else
     some false))))
def SQ7(n:FuncId)(F:Redir->Option (Bool)):Spec:=mkS n F (λa=>([.pv (PV.agg [.int .i64 a.kind_,.int .i64 a.fd_,.int .i64 a.from_,.int .i64 a.word_.kind_,.str a.word_.text_,.str a.word_.quoted_,.slice (List.map Word.pv a.word_.words_),.slice (List.map Cmd.pv a.word_.cmd_),.bool a.raw_])],[])) (λa b=>.ret [ab b] [])
def S147(a:Y3):=SQ7 147 (F147 a)
def F187(a:Str):Option Bool:=
 some ((((((decide (a=[105,102])||decide (a=[119,104,105,108,101]))||decide (a=[102,111,114]))||decide (a=[115,119,105,116,99,104]))||decide (a=[99,97,115,101]))||decide (a=[102,110]))||decide (a=[126]))
def S187:=SQ3 187 F187
def X0d(b:Str)(d:Int->Option Bool):Int->Option Bool:=λa=>
 (bif decide (a<(b.length:Int))then
  (sidx b a).bind λe=>
  (bif decide (e=49)then
   some true
  else
   d (IntKind.wrap .i64 (a+1)))
 else
  some false)
def F171(a:Str):Option Bool:=
 iter (X0d a) BIG 0
def S171:=SQ3 171 F171
def Z4u:(Int×Str×Str×(List Word)×(List Cmd))->Option Bool:=λ(a,d,e,g,i)=>
 (Q0e (decide (a=1)) (F187 d)).bind λb=>
 (Q0e (decide (a=1)&&b) (F171 e)).bind λf=>
 some ((decide (a=1)&&b)&&!f)
def F148(w1:Word):Option Bool:=
 (bif decide (w1.kind_=4)then
  (lidx w1.words_ 0).bind λa=>
  Z4u (a.kind_,a.text_,a.quoted_,a.words_,a.cmd_)
 else
  Z4u (w1.kind_,w1.text_,w1.quoted_,w1.words_,w1.cmd_))
def S148:=SQ6 148 F148
def F149(b:Y4)(a:Cmd):Option Bool:=
 (Q0e (decide (a.kind_=12)&&decide ((a.redirs_.length:Int)=0)) (b a)).bind λd=>
 some ((decide (a.kind_=12)&&decide ((a.redirs_.length:Int)=0))&&d)
def S149(a:Y4):=SQ4 149 (F149 a)
def X0e(d:List Cmd)(f:Y3)(g:Y4)(i:Int->Option Bool):Int->Option Bool:=λb=>
 (bif decide (b<(d.length:Int))then
  (lidx d b).bind λa=>
  (Q0e (!(((!decide (a.kind_=18)||!decide (a.name_=[]))||decide (0<(a.redirs_.length:Int)))||decide ((a.words_.length:Int)=0))) (F146 f a.words_)).bind λe=>
  (Q0e (!((((!decide (a.kind_=18)||!decide (a.name_=[]))||decide (0<(a.redirs_.length:Int)))||decide ((a.words_.length:Int)=0))||!e)) (F30 g a.kids_)).bind λj=>
  (bif (((((!decide (a.kind_=18)||!decide (a.name_=[]))||decide (0<(a.redirs_.length:Int)))||decide ((a.words_.length:Int)=0))||!e)||!j)then
   some false
  else
   i (IntKind.wrap .i64 (b+1)))
 else
  some true)
def F150(a:Y4)(b:Y3)(d:List Cmd):Option Bool:=
 iter (X0e d b a) BIG 0
def S150(a:Y4)(b:Y3):=SQ0 150 (F150 a b)
def X0j(a:Cmd)(g:Y3)(b:Y4)(i:Int->Option Bool):Int->Option Bool:=λd=>
 (bif decide (d<(a.redirs_.length:Int))then
  (lidx a.redirs_ d).bind λj=>
  (F147 g j).bind λl=>
  (bif !l then
   some false
  else
   i (IntKind.wrap .i64 (d+1)))
 else
  (bif decide (a.kind_=1)then
   (Q0e (!(decide ((a.words_.length:Int)=0))) (lidx a.words_ 0)).bind λm=>
   (Q0e (!(decide ((a.words_.length:Int)=0))) (F148 m)).bind λn=>
   some (decide ((a.words_.length:Int)=0)||!n)
  else
   (bif (bif decide (a.kind_=8)then decide (a.kind_=8)else decide (a.kind_=11))then
    (lidx a.kids_ 0).bind λo=>
    (F149 b o).bind λe=>
    (Q0e e (Q3n a.kids_ 1 (a.kids_.length:Int))).bind λp=>
    (Q0e e (F65 b p 1)).bind λq=>
    some (e&&q)
   else
    (bif (bif decide (a.kind_=12)then decide (a.kind_=12)else decide (a.kind_=15))then
     (F30 b a.kids_).bind λr=>
     some r
    else
     (bif (bif decide (a.kind_=5)then decide (a.kind_=5)else decide (a.kind_=6))then
      (Q3n a.kids_ 0 1).bind λt=>
      (F65 b t 3).bind λf=>
      (Q0e f (Q3n a.kids_ 1 (a.kids_.length:Int))).bind λu=>
      (Q0e f (F65 b u 2)).bind λx=>
      some (f&&x)
     else
      (bif decide (a.kind_=14)then
       (F65 b a.kids_ 3).bind λy=>
       some y
      else
       (bif decide (a.kind_=17)then
        (F150 b g a.kids_).bind λz=>
        some z
       else
        (F65 b a.kids_ 1).bind λA=>
        some A)))))))
def F101(e:Y4)(b:Y3)(a:Cmd):Option Bool:=
 (F145 a).bind λd=>
 (Q0e d (F146 b a.words_)).bind λf=>
 (bif (!d||!f)then
  some false
 else
  iter (X0j a b e) BIG 0)
def S101:=SQ4 101
def F238(a:Int):Option Bool:=
 (bif (bif decide (a=32)then decide (a=32)else(bif decide (a=9)then decide (a=9)else(bif decide (a=10)then decide (a=10)else(bif decide (a=59)then decide (a=59)else(bif decide (a=38)then decide (a=38)else(bif decide (a=124)then decide (a=124)else(bif decide (a=40)then decide (a=40)else(bif decide (a=41)then decide (a=41)else(bif decide (a=123)then decide (a=123)else(bif decide (a=125)then decide (a=125)else(bif decide (a=60)then decide (a=60)else(bif decide (a=62)then decide (a=62)else(bif decide (a=61)then decide (a=61)else(bif decide (a=94)then decide (a=94)else(bif decide (a=96)then decide (a=96)else(bif decide (a=36)then decide (a=36)else decide (a=39)))))))))))))))))then
  some false
 else
  some true)
def SQ8(n:FuncId)(F:Int->Option (Bool)):Spec:=mkS n F (λa=>([.pv (.int .u8 a)],[])) (λa b=>.ret [ab b] [])
def S238:=SQ8 238 F238
def Q9r(w1:Word)(f:Int->Option Bool):Int->Option Bool:=λb=>
 (bif decide (b<(w1.text_.length:Int))then
  (sidx w1.quoted_ b).bind λa=>
  (Q0e (!(!decide (a=48)&&!decide (a=49))&&decide (a=48)) (sidx w1.text_ b)).bind λg=>
  (Q0e (!(!decide (a=48)&&!decide (a=49))&&decide (a=48)) (F238 g)).bind λi=>
  (bif ((!decide (a=48)&&!decide (a=49))||(decide (a=48)&&!i))then
   some false
  else
   f (IntKind.wrap .i64 (b+1)))
 else
  (Q0e (!(decide (w1.text_=[]))) (sidx w1.quoted_ 0)).bind λe=>
  (Q0e (!(decide (w1.text_=[])||decide (e=49))) (sidx w1.text_ 0)).bind λd=>
  some ((decide (w1.text_=[])||decide (e=49))||((!decide (d=35)&&!decide (d=33))&&!decide (d=64))))
def F214(w1:Word):Option Bool:=
 (bif !decide ((w1.quoted_.length:Int)=(w1.text_.length:Int))then
  some false
 else
  iter (Q9r w1) BIG 0)
def S214:=SQ6 214 F214
def J4p(w1:Word)(b:Y3)(d:Int->Option Bool):Int->Option Bool:=λa=>
 (bif decide (a<(w1.words_.length:Int))then
  (lidx w1.words_ a).bind λe=>
  (bif decide (e.kind_=4)then
   some false
  else
   d (IntKind.wrap .i64 (a+1)))
 else
  (Q0e (((decide (w1.text_=[])&&decide (w1.quoted_=[]))&&decide (1<(w1.words_.length:Int)))&&decide ((w1.cmd_.length:Int)=0)) (F146 b w1.words_)).bind λf=>
  some ((((decide (w1.text_=[])&&decide (w1.quoted_=[]))&&decide (1<(w1.words_.length:Int)))&&decide ((w1.cmd_.length:Int)=0))&&f))
def F184(d:Y4)(a:Y3)(w1:Word):Option Bool:=
 (bif decide (w1.kind_=1)then
  (F214 w1).bind λe=>
  some (e&&decide (IntKind.wrap .i64 ((w1.words_.length:Int)+(w1.cmd_.length:Int))=0))
 else
  (bif (bif decide (w1.kind_=2)then decide (w1.kind_=2)else decide (w1.kind_=3))then
   (F172 w1.text_).bind λf=>
   some ((f&&decide (w1.quoted_=[]))&&decide (IntKind.wrap .i64 ((w1.words_.length:Int)+(w1.cmd_.length:Int))=0))
  else
   (bif decide (w1.kind_=7)then
    (F172 w1.text_).bind λb=>
    (Q0e (((b&&decide (w1.quoted_=[]))&&decide (0<(w1.words_.length:Int)))&&decide ((w1.cmd_.length:Int)=0)) (F146 a w1.words_)).bind λg=>
    some ((((b&&decide (w1.quoted_=[]))&&decide (0<(w1.words_.length:Int)))&&decide ((w1.cmd_.length:Int)=0))&&g)
   else
    (bif decide (w1.kind_=5)then
     (Q0e ((decide (w1.text_=[])&&decide (w1.quoted_=[]))&&decide ((w1.cmd_.length:Int)=0)) (F146 a w1.words_)).bind λi=>
     some (((decide (w1.text_=[])&&decide (w1.quoted_=[]))&&decide ((w1.cmd_.length:Int)=0))&&i)
    else
     (bif decide (w1.kind_=6)then
      (Q0e ((decide (w1.text_=[])&&decide (w1.quoted_=[]))&&decide ((w1.words_.length:Int)=0)) (F30 d w1.cmd_)).bind λj=>
      some (((decide (w1.text_=[])&&decide (w1.quoted_=[]))&&decide ((w1.words_.length:Int)=0))&&j)
     else
      (bif decide (w1.kind_=4)then
       iter (J4p w1 a) BIG 0
      else
       some false))))))
def S184:=SQ6 184
mutual
def K101:Nat->Cmd->Option (Bool)
 | 0=>λ_=>none
 | n+1=>F101 (K101 n) (K184 n)
def K184:Nat->Word->Option (Bool)
 | 0=>λ_=>none
 | n+1=>F184 (K101 n) (K184 n)
end
def F14(a:List Cmd):Option Bool:=
 (K16 BIG a).bind λb=>
 (Q0e (decide (b<=1024)) (K25 BIG a)).bind λd=>
 (Q0e (decide (b<=1024)&&decide (d<=32)) (F30 (K101 BIG) a)).bind λe=>
 some ((decide (b<=1024)&&decide (d<=32))&&e)
def S14:=SQ0 14 F14
def F74(b a:Str):Option Bool:=
 (Q0e (decide ((a.length:Int)<=(b.length:Int))) (Q0n b 0 (a.length:Int))).bind λd=>
 some (decide ((a.length:Int)<=(b.length:Int))&&decide (d=a))
def SQ9(n:FuncId)(F:Str->Str->Option (Bool)):Spec:=mkS n (un2 F) (λ(a,b)=>([as_ a,as_ b],[])) (λ(a,b) c=>.ret [ab c] [])
def S74:=SQ9 74 F74
def F42(a b:Str):Option Bool:=
 (F74 a b).bind λd=>
 some d
def S42:=SQ9 42 F42
def Q7c(d:Str)(i:(Int×(List Str)×(List Int))->Option ((List Str)×(List Int))):(Int×(List Str)×(List Int))->Option ((List Str)×(List Int)):=λ(a,e,f)=>
 (bif decide (a<(d.length:Int))then
  (Q0n d a (d.length:Int)).bind λj=>
  (Z9k j [10]).bind λ(b,n,g)=>
  (appO 16 e [b]).bind λl=>
  (appO 8 f [(bif g then IntKind.wrap .i64 ((IntKind.wrap .i64 (a+(b.length:Int)))+1)else IntKind.wrap .i64 (a+(b.length:Int)))]).bind λm=>
  i ((bif g then IntKind.wrap .i64 ((IntKind.wrap .i64 (a+(b.length:Int)))+1)else IntKind.wrap .i64 (a+(b.length:Int))),l,m)
 else
  some (e,f))
def F117(a:Str)(b:Int):Option ((List Str)×(List Int)):=
 iter (Q7c a) BIG (b,([]:List Str),([]:List Int))
def S117:Spec:=mkS 117 (un2 F117) (λ(a,b)=>([as_ a,ai b],[])) (λ(a,b) (c,d)=>.ret [.pv (.slice (List.map PV.str c)),.pv (.slice (List.map (PV.int .i64) d))] [])
def X0h(b:List Str)(d:Str)(e:Int->Option Int):Int->Option Int:=λa=>
 (bif decide (a<(b.length:Int))then
  (lidx b a).bind λf=>
  (bif decide (d=f)then
   some a
  else
   e (IntKind.wrap .i64 (a+1)))
 else
  some (-1))
def F118(a:List Str)(b:Str):Option Int:=
 iter (X0h a b) BIG 0
def S118:Spec:=mkS 118 (un2 F118) (λ(a,b)=>([.pv (.slice (List.map PV.str a)),as_ b],[])) (λ(a,b) c=>.ret [ai c] [])
def F72(d:Str)(b:Int)(g:Str):Option (Str×Int×Int):=
 (bif (decide (b<0)||decide ((d.length:Int)<b))then
  some ([],0,1)
 else
  (F117 d b).bind λ(e,f)=>
  (F118 e g).bind λa=>
  (bif decide (a<0)then
   some ([],0,3)
  else
   (bif decide (0<a)then
    (Q3n e 0 a).bind λi=>
    (J6z i [10]).bind λj=>
    (catO j [10]).bind λl=>
    (lidx f a).bind λm=>
    some (l,m,0)
   else
    (lidx f a).bind λn=>
    some ([],n,0))))
def S72:Spec:=mkS 72 (un3 F72) (λ(a,b,c)=>([as_ a,ai b,as_ c],[])) (λ(a,b,c) (d,e,f)=>.ret [as_ d,ai e,ai f] [])
def Z4l(a b:Int)(d:Str)(e f g i:Int)(j:List Token)(l:List Str):Option (Bool×Int×Int):=
 some (false,a,b)
def J6w:Spec:=mkS 73 (un9 Z4l) (λ(a,b,c,d,e,f,g,h,i)=>([.ref 0 0,ai a,ai b],[V6 c d h.length i.length e f g,rTo h,rSt i])) (λ(a,b,c,d,e,f,g,h,i) (j,k,l)=>.ret [ab j] [V6 c d h.length i.length e k l,rTo h,rSt i])
def Q8l(b:Token)(f:Str)(g i d e:Int)(a:List Token)(j:List Str):Option (Bool×Int×Int×(List Token)):=
 (bif decide (1024<=(a.length:Int))then
  (Z4l b.at_ 4 f g i d e a j).bind λ(l,m,n)=>
  some (l,m,n,a)
 else
  (appO 48 a [b]).bind λo=>
  some (true,d,e,o))
def X5y:Spec:=mkS 71 (un8 Q8l) (λ(a,b,c,d,e,f,g,h)=>([.ref 0 0,.pv (PV.agg [.int .i64 a.kind_,.int .i64 a.at_,.str a.text_,.str a.quoted_])],[V6 b c g.length h.length d e f,rTo g,rSt h])) (λ(a,b,c,d,e,f,g,h) (i,j,k,l)=>.ret [ab i] [V6 b c l.length h.length d j k,rTo l,rSt h])
def Z6g(a:Str)(b e f g:Int)(i:List Token)(j:List Str):Option Str:=
 (Q0n a b (a.length:Int)).bind λd=>
 some d
def J6x:Spec:=mkS 39 (un7 Z6g) (λ(a,b,c,d,e,f,g)=>([.ref 0 0],[V6 a b f.length g.length c d e,rTo f,rSt g])) (λ(a,b,c,d,e,f,g) h=>.ret [as_ h] [V6 a b f.length g.length c d e,rTo f,rSt g])
def Q3u(f:Str)(g i j:Int)(l:List Token)(m:List Str)(d:Int->Option Int):Int->Option Int:=λa=>
 (Z6g f a g i j l m).bind λb=>
 (F42 b [32]).bind λe=>
 (Q0e (!e) (F42 b [9])).bind λn=>
 (bif (e||n)then
  d (IntKind.wrap .i64 (a+1))
 else
  (F42 b [92,10]).bind λo=>
  (bif o then
   d (IntKind.wrap .i64 (a+2))
  else
   some a))
def J9u(a:Str)(b d e f:Int)(g:List Token)(i:List Str):Option Int:=
 iter (Q3u a d e f g i) BIG b
def K5u:Spec:=mkS 38 (un7 J9u) (λ(a,b,c,d,e,f,g)=>([.ref 0 0],[V6 a b f.length g.length c d e,rTo f,rSt g])) (λ(a,b,c,d,e,f,g) h=>.ret [] [V6 a h f.length g.length c d e,rTo f,rSt g])
def J4l(b:List Str)(f:Str)(l g i:Int)(d:List Token)(m:(Int×Int)->Option (Bool×Bool×Int×Int×Int×(List Token))):(Int×Int)->Option (Bool×Bool×Int×Int×Int×(List Token)):=λ(e,a)=>
 (bif decide (e<(b.length:Int))then
  (lidx b e).bind λn=>
  (F72 f a n).bind λ(t,o,j)=>
  (bif !decide (j=0)then
   (Z4l a j f a l g i d b).bind λ(p,q,r)=>
   some (false,p,a,q,r,d)
  else
   m (IntKind.wrap .i64 (e+1),o))
 else
  some (true,true,a,g,i,d))
def J9t(b:Str)(a d j l:Int)(m:List Token)(e:List Str):Option (Bool×Bool×Int×Int×Int×(List Token)):=
 (Q8l (Token.mk 3 a [10] []) b a d j l m e).bind λ(n,f,g,i)=>
 (bif !n then
  some (false,false,a,f,g,i)
 else
  iter (J4l e b d f g i) BIG (0,IntKind.wrap .i64 (a+1)))
def V2p:Spec:=mkS 41 (un7 J9t) (λ(a,b,c,d,e,f,g)=>([.ref 0 0],[V6 a b f.length g.length c d e,rTo f,rSt g])) (λ(a,b,c,d,e,f,g) (h,i,j,k,l,m)=>.ret [ab i] (bif h then[V8 a j m.length c k l,rTo m,rSt g]else[V6 a j m.length g.length c k l,rTo m,rSt g]))
def J2h(d:Str)(e f g i:Int)(j:List Token)(l:List Str):Option Bool:=
 (Z6g d e f g i j l).bind λa=>
 (Q0e (!decide (a=[])) (sidx a 0)).bind λm=>
 (Q0e (!decide (a=[])) (Q0h [32,9,10,59,38,124,40,41,123,125,60,62,61,94,96,36,39] m)).bind λb=>
 (Q0e (!decide (a=[])&&decide (b<0)) (F42 a [92,10])).bind λn=>
 some ((!decide (a=[])&&decide (b<0))&&!n)
def SQ10(n:FuncId)(F:Str->Int->Int->Int->Int->(List Token)->(List Str)->Option (Bool)):Spec:=mkS n (un7 F) (λ(a,b,c,d,e,f,g)=>([.ref 0 0],[V6 a b f.length g.length c d e,rTo f,rSt g])) (λ(a,b,c,d,e,f,g) h=>.ret [ab h] [V6 a b f.length g.length c d e,rTo f,rSt g])
def K1k:=SQ10 120 J2h
def Q2q(d:Str)(g e f:Int)(i:List Token)(j:List Str)(m:Int)(n:(Int×Str)->Option (Str×Bool×Int×Int×Int)):(Int×Str)->Option (Str×Bool×Int×Int×Int):=λ(a,o)=>
 (Z6g d a g e f i j).bind λp=>
 (Q0h p 39).bind λb=>
 (bif decide (b<0)then
  (Z4l m 48 d a g e f i j).bind λ(q,r,t)=>
  some ([],q,a,r,t)
 else
  (Q0n d a (IntKind.wrap .i64 (a+b))).bind λu=>
  (Q1n o u).bind λ(C,l)=>
  (Z6g d (IntKind.wrap .i64 (a+(IntKind.wrap .i64 (b+1)))) g e f i j).bind λx=>
  (F42 x [39]).bind λy=>
  (bif !y then
   (Q4i l).bind λz=>
   some (z,true,(IntKind.wrap .i64 (a+(IntKind.wrap .i64 (b+1)))),e,f)
  else
   (Q2g l 39).bind λA=>
   n (IntKind.wrap .i64 ((IntKind.wrap .i64 (a+(IntKind.wrap .i64 (b+1))))+1),A)))
def Z9w(b:Str)(a d e f:Int)(g:List Token)(i:List Str):Option (Str×Bool×Int×Int×Int):=
 iter (Q2q b d e f g i a) BIG (IntKind.wrap .i64 (a+1),[])
def K1j:Spec:=mkS 122 (un7 Z9w) (λ(a,b,c,d,e,f,g)=>([.ref 0 0],[V6 a b f.length g.length c d e,rTo f,rSt g])) (λ(a,b,c,d,e,f,g) (h,i,j,k,l)=>.ret [as_ h,ab i] [V6 a j f.length g.length c k l,rTo f,rSt g])
def Q5g(e:Str)(f:Int)(g:List Token)(i:List Str)(m:(Int×Int×Int×Str×Str)->Option (Str×Str×Bool×Int×Int×Int)):(Int×Int×Int×Str×Str)->Option (Str×Str×Bool×Int×Int×Int):=λ(a,b,d,j,l)=>
 (J2h e a f b d g i).bind λr=>
 (bif r then
  (sidx e a).bind λt=>
  (Q2g j t).bind λu=>
  (Q2g l 48).bind λx=>
  m (IntKind.wrap .i64 (a+1),b,d,u,x)
 else
  (Z6g e a f b d g i).bind λy=>
  (F42 y [39]).bind λz=>
  (bif z then
   (Z9w e a f b d g i).bind λ(n,A,o,p,q)=>
   (bif !A then
    some ([],[],false,o,p,q)
   else
    (Q1n j n).bind λ(I,C)=>
    (Q2u [49] (n.length:Int)).bind λD=>
    (Q1n l D).bind λ(J,E)=>
    m (o,p,q,C,E))
  else
   (Q4i j).bind λF=>
   (Q4i l).bind λH=>
   some (F,H,true,a,b,d)))
def J4k(a:Str)(b d e f:Int)(g:List Token)(i:List Str):Option (Str×Str×Bool×Int×Int×Int):=
 iter (Q5g a d g i) BIG (b,e,f,[],[])
def K5s:Spec:=mkS 75 (un7 J4k) (λ(a,b,c,d,e,f,g)=>([.ref 0 0],[V6 a b f.length g.length c d e,rTo f,rSt g])) (λ(a,b,c,d,e,f,g) (h,i,j,k,l,m)=>.ret [as_ h,as_ i,ab j] [V6 a k f.length g.length c l m,rTo f,rSt g])
def J9s(e:Str)(l f m n:Int)(a:List Token)(b:List Str):Option (Bool×Int×Int×Int×(List Token)×(List Str)):=
 (J9u e (IntKind.wrap .i64 (l+2)) f m n a b).bind λg=>
 (J4k e g f m n a b).bind λ(o,q,r,d,i,j)=>
 (bif !r then
  some (false,d,i,j,a,b)
 else
  (bif decide (d=g)then
   (Z4l g 47 e d f i j a b).bind λ(t,u,x)=>
   some (t,d,u,x,a,b)
  else
   (appO 16 b [o]).bind λp=>
   (Q8l (Token.mk 4 l o q) e d f i j a p).bind λ(y,z,A,C)=>
   some (y,d,z,A,C,p)))
def V2o:Spec:=mkS 43 (un7 J9s) (λ(a,b,c,d,e,f,g)=>([.ref 0 0],[V6 a b f.length g.length c d e,rTo f,rSt g])) (λ(a,b,c,d,e,f,g) (h,i,j,k,l,m)=>.ret [ab h] [V6 a i l.length m.length c j k,rTo l,rSt m])
def F76(f:Str)(b d g i:Int)(a:List Token)(j:List Str):Option Bool:=
 (Q0e (decide (0<(a.length:Int))) (lidx a (IntKind.wrap .i64 ((a.length:Int)-1)))).bind λe=>
 some ((decide (0<(a.length:Int))&&decide (e.kind_=1))&&decide (d=b))
def S76:=SQ10 76 F76
def F166(b:Str):Option Bool:=
 (Z3g b).bind λ(a,d)=>
 (Q0e ((!d&&decide (0<=a))&&decide (a<64)) (Q4z a)).bind λe=>
 some (((!d&&decide (0<=a))&&decide (a<64))&&decide (e=b))
def S166:=SQ3 166 F166
def F125(d:Str)(e:Bool):Option Int:=
 (Q0h d 93).bind λa=>
 (bif decide (a<0)then
  some 0
 else
  (Q0n d 1 a).bind λi=>
  (Z9k i [61]).bind λ(j,b,f)=>
  (F166 j).bind λg=>
  (Q0e (((g&&f)&&e)&&!decide (b=[])) (F166 b)).bind λl=>
  (bif (!g||(f&&(!e||(!decide (b=[])&&!l))))then
   some 0
  else
   some (IntKind.wrap .i64 (a+1))))
def S125:Spec:=mkS 125 (un2 F125) (λ(a,b)=>([as_ a,ab b],[])) (λ(a,b) c=>.ret [ai c] [])
def J7a(b:Str)(d e g:Int)(l:Str)(m:Int)(n:List Token)(o:List Str)(p:Int->Option (Str×Bool×Int×Int)):Int->Option (Str×Bool×Int×Int):=λf=>
 (bif decide (f<([[62,62],[62],[60],[124]].length:Int))then
  (lidx [[62,62],[62],[60],[124]] f).bind λa=>
  (F42 b a).bind λq=>
  (bif !q then
   p (IntKind.wrap .i64 (f+1))
  else
   (Q0n b (a.length:Int) (b.length:Int)).bind λi=>
   (F42 i [91]).bind λr=>
   (bif !r then
    some (a,true,d,e)
   else
    (F125 i (!decide (a=[124]))).bind λj=>
    (bif decide (j=0)then
     (Z4l (IntKind.wrap .i64 (g+(a.length:Int))) 47 l g m d e n o).bind λ(t,u,x)=>
     some ([],t,u,x)
    else
     (Q0n b 0 (IntKind.wrap .i64 ((a.length:Int)+j))).bind λy=>
     some (y,true,d,e))))
 else
  some ([],true,d,e))
def K1u(a:Str)(b d g:Int)(i:Str)(j:Int)(l:List Token)(m:List Str)(n:Int->Option (Str×Bool×Int×Int)):Int->Option (Str×Bool×Int×Int):=λe=>
 (bif decide (e<([[38,38],[124,124],[36,35]].length:Int))then
  (lidx [[38,38],[124,124],[36,35]] e).bind λf=>
  (F42 a f).bind λo=>
  (bif o then
   some (f,true,b,d)
  else
   n (IntKind.wrap .i64 (e+1)))
 else
  (bif decide (a=[])then
   some ([],true,b,d)
  else
   (sidx a 0).bind λp=>
   (Q0h [59,38,40,41,123,125,61,94,96,36,33,64] p).bind λq=>
   (bif decide (0<=q)then
    (Q0n a 0 1).bind λr=>
    some (r,true,b,d)
   else
    iter (J7a a b d g i j l m) BIG 0)))
def F77(a:Str)(b d e f:Int)(g:List Token)(i:List Str):Option (Str×Bool×Int×Int):=
 (Z6g a b d e f g i).bind λj=>
 iter (K1u j e f b a d g i) BIG 0
def S77:Spec:=mkS 77 (un7 F77) (λ(a,b,c,d,e,f,g)=>([.ref 0 0],[V6 a b f.length g.length c d e,rTo f,rSt g])) (λ(a,b,c,d,e,f,g) (h,i,j,k)=>.ret [as_ h,ab i] [V6 a b f.length g.length c j k,rTo f,rSt g])
def F78(a:Token)(o:Bool)(d:Str)(e f i j:Int)(l:List Token)(g:List Str):Option (Bool×Int×Int×(List Token)):=
 (Q0e (!(decide (a.kind_=1))&&(decide (a.kind_=2)&&!decide (a.text_=[]))) (sidx a.text_ 0)).bind λp=>
 (Q0e (!(decide (a.kind_=1))&&(decide (a.kind_=2)&&!decide (a.text_=[]))) (Q0h [36,96] p)).bind λq=>
 (bif (o&&(decide (a.kind_=1)||((decide (a.kind_=2)&&!decide (a.text_=[]))&&decide (0<=q))))then
  (Q8l (Token.mk 2 a.at_ [94] []) d e f i j l g).bind λ(r,m,b,n)=>
  (bif !r then
   some (false,m,b,n)
  else
   (Q8l a d e f m b n g).bind λ(t,u,x,y)=>
   some (t,u,x,y))
 else
  (Q8l a d e f i j l g).bind λ(z,b,A,C)=>
  some (z,b,A,C))
def S78:Spec:=mkS 78 (un9 F78) (λ(a,b,c,d,e,f,g,h,i)=>([.ref 0 0,.pv (PV.agg [.int .i64 a.kind_,.int .i64 a.at_,.str a.text_,.str a.quoted_]),ab b],[V6 c d h.length i.length e f g,rTo h,rSt i])) (λ(a,b,c,d,e,f,g,h,i) (j,k,l,m)=>.ret [ab j] [V6 c d m.length i.length e k l,rTo m,rSt i])
def F126(a:Int):Option Bool:=
 some (((((decide (97<=a)&&decide (a<=122))||(decide (65<=a)&&decide (a<=90)))||(decide (48<=a)&&decide (a<=57)))||decide (a=95))||decide (a=42))
def S126:=SQ8 126 F126
def Z9n(b:Str)(d f g i:Int)(e:List Token)(j:List Str)(m:Int->Option (Bool×Int×Int×Int×(List Token))):Int->Option (Bool×Int×Int×Int×(List Token)):=λa=>
 (Q0e (decide (a<(b.length:Int))) (sidx b a)).bind λn=>
 (Q0e (decide (a<(b.length:Int))) (F126 n)).bind λo=>
 (bif (decide (a<(b.length:Int))&&o)then
  m (IntKind.wrap .i64 (a+1))
 else
  (bif decide (a=d)then
   (Z4l d 47 b a f g i e j).bind λ(p,q,r)=>
   some (p,a,q,r,e)
  else
   (Q0n b d a).bind λl=>
   (Q2u [48] (l.length:Int)).bind λt=>
   (Q8l (Token.mk 1 d l t) b a f g i e j).bind λ(u,x,y,z)=>
   some (u,a,x,y,z)))
def F79(b:Str)(a d e f:Int)(g:List Token)(i:List Str):Option (Bool×Int×Int×Int×(List Token)):=
 iter (Z9n b a d e f g i) BIG a
def SQ11(n:FuncId)(F:Str->Int->Int->Int->Int->(List Token)->(List Str)->Option (Bool×Int×Int×Int×(List Token))):Spec:=mkS n (un7 F) (λ(a,b,c,d,e,f,g)=>([.ref 0 0],[V6 a b f.length g.length c d e,rTo f,rSt g])) (λ(a,b,c,d,e,f,g) (h,i,j,k,l)=>.ret [ab h] [V6 a i l.length g.length c j k,rTo l,rSt g])
def S79:=SQ11 79 F79
def F44(e:Str)(a f p q:Int)(d:List Token)(g:List Str):Option (Bool×Int×Int×Int×(List Token)):=
 (F76 e a f p q d g).bind λr=>
 (F77 e a f p q d g).bind λ(b,x,i,j)=>
 (bif !x then
  some (false,a,i,j,d)
 else
  (bif !decide (b=[])then
   (F78 (Token.mk 2 a b []) r e (IntKind.wrap .i64 (a+(b.length:Int))) f i j d g).bind λ(y,l,m,n)=>
   (bif !y then
    some (false,(IntKind.wrap .i64 (a+(b.length:Int))),l,m,n)
   else
    (bif (decide (b=[36])||decide (b=[36,35]))then
     (F79 e (IntKind.wrap .i64 (a+(b.length:Int))) f l m n g).bind λ(z,A,C,D,E)=>
     some (z,A,C,D,E)
    else
     some (true,(IntKind.wrap .i64 (a+(b.length:Int))),l,m,n)))
  else
   (J4k e a f i j d g).bind λ(F,H,I,o,t,u)=>
   (bif I then
    (F78 (Token.mk 1 a F H) r e o f t u d g).bind λ(J,K,L,M)=>
    some (J,o,K,L,M)
   else
    some (false,o,t,u,d))))
def S44:=SQ11 44 F44
def Z5x(i:Str)(j:(Int×Int×Int×Int×(List Token)×(List Str))->Option ((List Token)×Int×Int)):(Int×Int×Int×Int×(List Token)×(List Str))->Option ((List Token)×Int×Int):=λ(a,I,e,d,f,b)=>
 (bif decide (d=0)then
  (J9u i a a e d f b).bind λl=>
  (Z6g i l a e d f b).bind λg=>
  (bif decide (g=[])then
   (bif decide (0<(b.length:Int))then
    some ([],(i.length:Int),3)
   else
    some (f,0,0))
  else
   (sidx g 0).bind λm=>
   (bif decide (m=35)then
    (Q0h g 10).bind λn=>
    (bif decide (0<=n)then
     j (IntKind.wrap .i64 ((IntKind.wrap .i64 (l+(g.length:Int)))+(IntKind.wrap .i64 (n-(g.length:Int)))),a,e,d,f,b)
    else
     j (IntKind.wrap .i64 (l+(g.length:Int)),a,e,d,f,b))
   else
    (bif decide (m=10)then
     (J9t i l a e d f b).bind λ(t,J,o,p,q,r)=>
     (bif t then
      j (o,a,p,q,r,([]:List Str))
     else
      j (o,a,p,q,r,b))
    else
     (F42 g [60,60]).bind λu=>
     (bif u then
      (J9s i l a e d f b).bind λ(K,x,y,z,A,C)=>
      j (x,a,y,z,A,C)
     else
      (F44 i l a e d f b).bind λ(L,D,E,F,H)=>
      j (D,a,E,F,H,b)))))
 else
  some ([],e,d))
def F19(a:Str):Option ((List Token)×Int×Int):=
 (bif decide (65536<(a.length:Int))then
  some ([],0,4)
 else
  iter (Z5x a) BIG (0,0,0,0,([]:List Token),([]:List Str)))
def S19:Spec:=mkS 19 F19 (λa=>([as_ a],[])) (λa (b,c,d)=>.ret [.pv (.slice (List.map Token.pv b)),ai c,ai d] [])
def Z9p(e:List Int)(f:List Token)(g:Str)(i:(Int×(List Str)×(List Int))->Option (List Str))(j:Int)(l:(Int×Int×(List Str))->Option (List Str)):(Int×Int×(List Str))->Option (List Str):=λ(m,a,b)=>
 (bif decide (a<(e.length:Int))then
  (lidx e a).bind λd=>
  (lidx f d).bind λn=>
  (F72 g m n.text_).bind λ(o,p,q)=>
  (lidx b d).bind λr=>
  l (p,IntKind.wrap .i64 (a+1),List.set b (Int.toNat d) o)
 else
  i (IntKind.wrap .i64 (j+1),b,([]:List Int)))
def Q3k(d:List Token)(i:Str)(e:(Int×(List Str)×(List Int))->Option (List Str)):(Int×(List Str)×(List Int))->Option (List Str):=λ(a,b,f)=>
 (bif decide (a<(d.length:Int))then
  (lidx d a).bind λg=>
  (bif decide (g.kind_=4)then
   (appO 8 f [a]).bind λj=>
   e (IntKind.wrap .i64 (a+1),b,j)
  else
   (bif decide (g.kind_=3)then
    iter (Z9p f d i e a) BIG (IntKind.wrap .i64 (g.at_+1),0,b)
   else
    e (IntKind.wrap .i64 (a+1),b,f)))
 else
  some b)
def F46(b:Str)(a:List Token):Option (List Str):=
 (mkO 16 (a.length:Int)).bind λd=>
 iter (Q3k a b) BIG (0,List.replicate (Int.toNat (a.length:Int)) ([]:Str),([]:List Int))
def S46:Spec:=mkS 46 (un2 F46) (λ(a,b)=>([as_ a,.pv (.slice (List.map Token.pv b))],[])) (λ(a,b) c=>.ret [.pv (.slice (List.map PV.str c))] [])
def F84(a:Int)(f:Str)(b:List Token)(g:List Str)(d:Int):Option Token:=
 (bif decide ((b.length:Int)<=IntKind.wrap .i64 (d+a))then
  some (Token.mk 0 0 [] [])
 else
  (lidx b (IntKind.wrap .i64 (d+a))).bind λe=>
  some e)
def S84:Spec:=mkS 84 (un5 F84) (λ(a,b,c,d,e)=>([.ref 0 0,ai a],[V10 b c d e])) (λ(a,b,c,d,e) f=>.ret [.pv (PV.agg [.int .i64 f.kind_,.int .i64 f.at_,.str f.text_,.str f.quoted_])] [V10 b c d e])
def F128(a:Token)(b:Str):Option Bool:=
 some (decide (a.kind_=2)&&decide (a.text_=b))
def S128:Spec:=mkS 128 (un2 F128) (λ(a,b)=>([.pv (PV.agg [.int .i64 a.kind_,.int .i64 a.at_,.str a.text_,.str a.quoted_]),as_ b],[])) (λ(a,b) c=>.ret [ab c] [])
def F127(a b:Str)(d:List Token)(e:List Str)(f:Int):Option Bool:=
 (F84 0 b d e f).bind λg=>
 (F128 g a).bind λi=>
 some i
def S127:Spec:=mkS 127 (un5 F127) (λ(a,b,c,d,e)=>([.ref 0 0,as_ a],[V10 b c d e])) (λ(a,b,c,d,e) f=>.ret [ab f] [V10 b c d e])
def Z1d(b:Str)(d:List Token)(e:List Str)(g:Int)(f:Int->Option (Bool×Int)):Int->Option (Bool×Int):=λa=>
 (F84 0 b d e a).bind λi=>
 (bif decide (i.kind_=3)then
  f (IntKind.wrap .i64 (a+1))
 else
  (F127 [59] b d e a).bind λj=>
  (bif j then
   f (IntKind.wrap .i64 (a+1))
  else
   some (decide (g<a),a)))
def F80(b:Str)(d:List Token)(e:List Str)(a:Int):Option (Bool×Int):=
 iter (Z1d b d e a) BIG a
def S80:Spec:=mkS 80 (un4 F80) (λ(a,b,c,d)=>([.ref 0 0],[V10 a b c d])) (λ(a,b,c,d) (e,f)=>.ret [ab e] [V10 a b c f])
def F133(a:Token):Option Bool:=
 (Q0e (decide (a.kind_=1)) (Q0h a.quoted_ 49)).bind λb=>
 some (decide (a.kind_=1)&&decide (b<0))
def SQ12(n:FuncId)(F:Token->Option (Bool)):Spec:=mkS n F (λa=>([.pv (PV.agg [.int .i64 a.kind_,.int .i64 a.at_,.str a.text_,.str a.quoted_])],[])) (λa b=>.ret [ab b] [])
def S133:=SQ12 133 F133
def F134(a:Str):Option Bool:=
 (Q0e (!decide (a=[])) (Q0h a 32)).bind λb=>
 (Q0e (!decide (a=[])&&decide (b<0)) (catO [32] a)).bind λd=>
 (Q0e (!decide (a=[])&&decide (b<0)) (catO d [32])).bind λe=>
 (Q0e (!decide (a=[])&&decide (b<0)) (Q6b [32,105,102,32,110,111,116,32,119,104,105,108,101,32,102,111,114,32,105,110,32,115,119,105,116,99,104,32,99,97,115,101,32,102,110,32,126,32] e)).bind λf=>
 some ((!decide (a=[])&&decide (b<0))&&f)
def S134:=SQ3 134 F134
def F83(a:Token):Option Str:=
 (F133 a).bind λb=>
 (Q0e b (F134 a.text_)).bind λd=>
 (bif (b&&d)then
  some a.text_
 else
  some [])
def S83:Spec:=mkS 83 F83 (λa=>([.pv (PV.agg [.int .i64 a.kind_,.int .i64 a.at_,.str a.text_,.str a.quoted_])],[])) (λa b=>.ret [as_ b] [])
def F129(a:Token):Option Bool:=
 (bif decide (a.kind_=1)then
  some true
 else
  (F128 a [36]).bind λb=>
  (Q0e (!b) (F128 a [36,35])).bind λd=>
  (Q0e (!(b||d)) (F128 a [40])).bind λe=>
  (Q0e (!((b||d)||e)) (F128 a [96])).bind λf=>
  some (((b||d)||e)||f))
def S129:=SQ12 129 F129
def F130(a:Token):Option Bool:=
 (Q0e (!(decide (a.kind_=4))&&decide (a.kind_=2)) (sidx a.text_ 0)).bind λb=>
 some (decide (a.kind_=4)||(decide (a.kind_=2)&&(decide (b=60)||decide (b=62))))
def S130:=SQ12 130 F130
def F81(j:Bool)(l:Str)(m:List Token)(n:List Str)(o:Int):Option Bool:=
 (F84 0 l m n o).bind λa=>
 (Q0e j (F83 a)).bind λr=>
 (bif (j&&decide (r=[99,97,115,101]))then
  (F84 1 l m n o).bind λt=>
  (F128 t [61]).bind λb=>
  (bif !b then
   some false
  else
   (F129 a).bind λd=>
   (Q0e (!d) (F130 a)).bind λf=>
   (Q0e (!(d||f)) (F128 a [33])).bind λg=>
   (Q0e (!((d||f)||g)) (F128 a [64])).bind λp=>
   (Q0e (!(((d||f)||g)||p)) (F128 a [123])).bind λu=>
   some ((((d||f)||g)||p)||u))
 else
  (F129 a).bind λe=>
  (Q0e (!e) (F130 a)).bind λb=>
  (Q0e (!(e||b)) (F128 a [33])).bind λi=>
  (Q0e (!((e||b)||i)) (F128 a [64])).bind λq=>
  (Q0e (!(((e||b)||i)||q)) (F128 a [123])).bind λx=>
  some ((((e||b)||i)||q)||x))
def S81:Spec:=mkS 81 (un5 F81) (λ(a,b,c,d,e)=>([.ref 0 0,ab a],[V10 b c d e])) (λ(a,b,c,d,e) f=>.ret [ab f] [V10 b c d e])
def F132(d e:Str)(f:List Token)(g:List Str)(a:Int):Option (Bool×Int):=
 (F127 d e f g a).bind λb=>
 some (b,(bif b then IntKind.wrap .i64 (a+1)else a))
def S132:Spec:=mkS 132 (un5 F132) (λ(a,b,c,d,e)=>([.ref 0 0,as_ a],[V10 b c d e])) (λ(a,b,c,d,e) (f,g)=>.ret [ab f] [V10 b c d g])
def Z9t(b:Str)(d:List Token)(e:List Str)(f:Int->Option Int):Int->Option Int:=λa=>
 (F84 0 b d e a).bind λg=>
 (bif decide (g.kind_=3)then
  f (IntKind.wrap .i64 (a+1))
 else
  some a)
def F168(a:Str)(b:List Token)(d:List Str)(e:Int):Option Int:=
 iter (Z9t a b d) BIG e
def S168:Spec:=mkS 168 (un4 F168) (λ(a,b,c,d)=>([.ref 0 0],[V10 a b c d])) (λ(a,b,c,d) e=>.ret [] [V10 a b c e])
def Q9t(b:Str)(d:List Token)(e:List Str)(g:Y0)(i:Bool)(j:(Int×(List Cmd))->Option (Int ⊕ (Cmd×Int))):(Int×(List Cmd))->Option (Int ⊕ (Cmd×Int)):=λ(l,a)=>
 (F132 [124] b d e l).bind λ(m,f)=>
 (bif m then
  (F168 b d e f).bind λn=>
  Q0i (g i b d e n) λ(o,p)=>
  (appO 104 a [o]).bind λq=>
  j (p,q)
 else
  (bif decide ((a.length:Int)=1)then
   (lidx a 0).bind λr=>
   some (.inr (r,f))
  else
   (lidx a 0).bind λt=>
   some (.inr (Cmd.mk 3 t.at_ [] [] [] a,f))))
def F167(f:Y0)(g:Bool)(a:Str)(b:List Token)(d:List Str)(j:Int):Option (Int ⊕ (Cmd×Int)):=
 Q0i (f g a b d j) λ(e,l)=>
 (F132 [124] a b d l).bind λ(m,i)=>
 (bif m then
  (F168 a b d i).bind λn=>
  Q0i (f g a b d n) λ(o,p)=>
  (appO 104 [e] [o]).bind λq=>
  iter (Q9t a b d f g) BIG (p,q)
 else
  (bif decide (([e].length:Int)=1)then
   some (.inr (e,i))
  else
   some (.inr (Cmd.mk 3 e.at_ [] [] [] [e],i))))
def SQ13(n:FuncId)(F:Bool->Str->(List Token)->(List Str)->Int->Option (Int ⊕ (Cmd×Int))):Spec:=mkS n (un5 F) (λ(a,b,c,d,e)=>([.ref 0 0,ab a],[V10 b c d e])) (λ(a,b,c,d,e) r=>match r with|.inl n=>.boom (syn n)|.inr (f,g)=>.ret [.pv (PV.agg [.int .i64 f.kind_,.int .i64 f.at_,.str f.name_,.slice (List.map Word.pv f.words_),.slice (List.map Redir.pv f.redirs_),.slice (List.map Cmd.pv f.kids_)])] [V10 b c d g])
def S167(a:Y0):=SQ13 167 (F167 a)
def Z4v(a:Str)(b:List Token)(d:List Str)(e:Y0)(f:Bool)(g:(Int×Int×Str×(List Word)×(List Redir)×(List Cmd))->Option (Int ⊕ (Cmd×Int)))(i:Int)(j:Cmd)(l:Str)(m:List Word)(n:List Redir)(o:List Cmd):(Int×Int)->Option (Int ⊕ (Cmd×Int)):=λ(p,q)=>
 (F168 a b d q).bind λr=>
 Q0i (F167 e f a b d r) λ(t,u)=>
 g (u,p,[],([]:List Word),([]:List Redir),[Cmd.mk i j.at_ l m n o,t])
def Q6d(a:Str)(b:List Token)(d:List Str)(m:Y0)(n:Bool)(e:Cmd)(o:(Int×Int×Str×(List Word)×(List Redir)×(List Cmd))->Option (Int ⊕ (Cmd×Int))):(Int×Int×Str×(List Word)×(List Redir)×(List Cmd))->Option (Int ⊕ (Cmd×Int)):=λ(r,f,g,i,j,l)=>
 (F132 [38,38] a b d r).bind λ(t,p)=>
 (bif t then
  Z4v a b d m n o f e g i j l (5,p)
 else
  (F132 [124,124] a b d p).bind λ(u,q)=>
  (bif u then
   Z4v a b d m n o f e g i j l (6,q)
  else
   some (.inr (Cmd.mk f e.at_ g i j l,q))))
def F131(b:Y0)(d:Bool)(e:Str)(f:List Token)(g:List Str)(i:Int):Option (Int ⊕ (Cmd×Int)):=
 Q0i (F167 b d e f g i) λ(a,j)=>
 iter (Q6d e f g b d a) BIG (j,a.kind_,a.name_,a.words_,a.redirs_,a.kids_)
def S131(a:Y0):=SQ13 131 (F131 a)
def F82(g:Y0)(i:Bool)(b:Str)(d:List Token)(e:List Str)(j:Int):Option (Int ⊕ (Cmd×Int)):=
 Q0i (F131 g i b d e j) λ(a,l)=>
 (F132 [38] b d e l).bind λ(m,f)=>
 (bif m then
  some (.inr (Cmd.mk 14 a.at_ [] [] [] [a],f))
 else
  some (.inr (a,f)))
def S82(a:Y0):=SQ13 82 (F82 a)
def F48(d:Str)(a:List Token)(f:List Str)(b:Int):Option (Int ⊕ Unit):=
 (bif decide (b<(a.length:Int))then
  (lidx a b).bind λe=>
  some (.inl e.at_)
 else
  some (.inl (d.length:Int)))
def S48:Spec:=mkS 48 (un4 F48) (λ(a,b,c,d)=>([.ref 0 0],[V10 a b c d])) (λ(a,b,c,d) r=>match r with|.inl n=>.boom (syn n)|.inr (_:Unit)=>.ret [] [V10 a b c d])
def Z9o(g:Bool)(b:Str)(d:List Token)(e:List Str)(m:Y0)(n:(Int×(List Cmd))->Option (Int ⊕ ((List Cmd)×Int))):(Int×(List Cmd))->Option (Int ⊕ ((List Cmd)×Int)):=λ(i,j)=>
 (F81 g b d e i).bind λo=>
 (bif o then
  Q0i (F82 m g b d e i) λ(l,p)=>
  (appO 104 j [l]).bind λf=>
  (F80 b d e p).bind λ(q,a)=>
  (bif (q||decide (l.kind_=14))then
   n (a,f)
  else
   (bif g then
    (F84 0 b d e a).bind λr=>
    (F83 r).bind λt=>
    (bif decide (t=[99,97,115,101])then
     Q0i (F48 b d e a) λ_=>
     some (.inr (f,a))
    else
     some (.inr (f,a)))
   else
    some (.inr (f,a))))
 else
  some (.inr (j,i)))
def F47(e:Y0)(f:Bool)(a:Str)(b:List Token)(d:List Str)(g:Int):Option (Int ⊕ ((List Cmd)×Int)):=
 (F80 a b d g).bind λ(j,i)=>
 iter (Z9o f a b d e) BIG (i,([]:List Cmd))
def S47(i:Y0):Spec:=mkS 47 (un5 (F47 i)) (λ(a,b,c,d,e)=>([.ref 0 0,ab a],[V10 b c d e])) (λ(a,b,c,d,e) r=>match r with|.inl n=>.boom (syn n)|.inr (f,g)=>.ret [.pv (.slice (List.map Cmd.pv f))] [V10 b c d g])
def J4s(b:Str)(e:Int->Option Bool):Int->Option Bool:=λd=>
 (bif decide (d<(b.length:Int))then
  (sidx b d).bind λa=>
  (bif (((((decide (a<97)||decide (122<a))&&(decide (a<65)||decide (90<a)))&&(decide (a<48)||decide (57<a)))&&!decide (a=95))&&!decide (a=42))then
   some false
  else
   e (IntKind.wrap .i64 (d+1)))
 else
  some (!decide (b=[])))
def F144(a:Str):Option Bool:=
 iter (J4s a) BIG 0
def S144:=SQ3 144 F144
def F223(j:Y0)(l:Y1)(m:Bool)(a:Str)(b:List Token)(d:List Str)(g:Int):Option (Int ⊕ (Cmd×Int)):=
 (F84 0 a b d g).bind λe=>
 Q0i (l a b d (IntKind.wrap .i64 (g+2))) λ(i,f)=>
 (F81 false a b d f).bind λn=>
 (bif n then
  Q0i (j m a b d f) λ(o,p)=>
  some (.inr (Cmd.mk 2 e.at_ e.text_ [i] [] [o],p))
 else
  some (.inr (Cmd.mk 2 e.at_ e.text_ [i] [] [],f)))
def S223(a:Y0)(b:Y1):=SQ13 223 (F223 a b)
def Z4o(a:Y0)(b:Bool)(d:Str)(e:List Token)(f:List Str)(Q0k:Int)(g:Token):Int->Option (Int ⊕ (Cmd×Int)):=λi=>
 Q0i (a b d e f i) λ(j,l)=>
 some (.inr (Cmd.mk Q0k g.at_ [] [] [] [j],l))
def F224(f:Y0)(Q0k g:Int)(i:Bool)(a:Str)(b:List Token)(d:List Str)(e:Int):Option (Int ⊕ (Cmd×Int)):=
 (F84 0 a b d e).bind λj=>
 (bif decide (Q0k=9)then
  (F168 a b d (IntKind.wrap .i64 (e+g))).bind λl=>
  Z4o f i a b d Q0k j l
 else
  Z4o f i a b d Q0k j (IntKind.wrap .i64 (e+g)))
def S224(j:Y0):Spec:=mkS 224 (un7 (F224 j)) (λ(a,b,c,d,e,f,g)=>([.ref 0 0,ai a,ai b,ab c],[V10 d e f g])) (λ(a,b,c,d,e,f,g) r=>match r with|.inl n=>.boom (syn n)|.inr (h,i)=>.ret [.pv (PV.agg [.int .i64 h.kind_,.int .i64 h.at_,.str h.name_,.slice (List.map Word.pv h.words_),.slice (List.map Redir.pv h.redirs_),.slice (List.map Cmd.pv h.kids_)])] [V10 d e f i])
def F255(i a:Str)(b:List Token)(d:List Str)(f:Int):Option (Int ⊕ (Int×Int)):=
 (F84 0 a b d f).bind λg=>
 (F132 i a b d f).bind λ(j,e)=>
 (bif !j then
  Q0i (F48 a b d e) λ_=>
  some (.inr (g.at_,e))
 else
  some (.inr (g.at_,e)))
def S255:Spec:=mkS 255 (un5 F255) (λ(a,b,c,d,e)=>([.ref 0 0,as_ a],[V10 b c d e])) (λ(a,b,c,d,e) r=>match r with|.inl n=>.boom (syn n)|.inr (f,g)=>.ret [ai f] [V10 b c d g])
def F253(e:Y0)(a:Str)(b:List Token)(d:List Str)(f:Int):Option (Int ⊕ ((List Cmd)×Int)):=
 Q0i (F255 [123] a b d f) λ(m,g)=>
 Q0i (F47 e false a b d g) λ(i,j)=>
 Q0i (F255 [125] a b d j) λ(n,l)=>
 some (.inr (i,l))
def S253(g:Y0):Spec:=mkS 253 (un4 (F253 g)) (λ(a,b,c,d)=>([.ref 0 0],[V10 a b c d])) (λ(a,b,c,d) r=>match r with|.inl n=>.boom (syn n)|.inr (e,f)=>.ret [.pv (.slice (List.map Cmd.pv e))] [V10 a b c f])
def F288(a b:Str):Option Str:=
 (F74 a b).bind λd=>
 (bif d then
  (Q0n a (b.length:Int) (a.length:Int)).bind λe=>
  some e
 else
  some a)
def SQ14(n:FuncId)(F:Str->Str->Option (Str)):Spec:=mkS n (un2 F) (λ(a,b)=>([as_ a,as_ b],[])) (λ(a,b) c=>.ret [as_ c] [])
def S288:=SQ14 288 F288
def F276(a b:Str):Option Str:=
 (F288 a b).bind λd=>
 some d
def S276:=SQ14 276 F276
def F155(a b:Str):Option Bool:=
 (Q0e (decide ((b.length:Int)<=(a.length:Int))) (Q0n a (IntKind.wrap .i64 ((a.length:Int)-(b.length:Int))) (a.length:Int))).bind λd=>
 some (decide ((b.length:Int)<=(a.length:Int))&&decide (d=b))
def S155:=SQ9 155 F155
def F287(a b:Str):Option Str:=
 (F155 a b).bind λd=>
 (bif d then
  (Q0n a 0 (IntKind.wrap .i64 ((a.length:Int)-(b.length:Int)))).bind λe=>
  some e
 else
  some a)
def S287:=SQ14 287 F287
def F275(a b:Str):Option Str:=
 (F287 a b).bind λd=>
 some d
def S275:=SQ14 275 F275
def F277(a:Str):Option Int:=
 (Z3g a).bind λ(b,d)=>
 some b
def S277:Spec:=mkS 277 F277 (λa=>([as_ a],[])) (λa b=>.ret [ai b] [])
def Q9o(a:Y1)(b:Str)(d:List Token)(e:List Str)(f g:Int):Int->Option (Int ⊕ (Redir×Int)):=λi=>
 Q0i (a b d e (IntKind.wrap .i64 (f+1))) λ(j,l)=>
 some (.inr (Redir.mk g i 0 j false,l))
def Q2x(a:Int)(d:Y1)(e:Str)(f:List Token)(g:List Str):(Str×Int×Int)->Option (Int ⊕ (Redir×Int)):=λ(i,j,n)=>
 (bif !decide (i=[])then
  (F276 i [91]).bind λo=>
  (F275 o [93]).bind λp=>
  (Z9k p [61]).bind λ(q,l,m)=>
  (F277 q).bind λb=>
  (bif (m&&decide (l=[]))then
   some (.inr (Redir.mk 6 b 0 (Word.mk 0 [] [] [] []) false,IntKind.wrap .i64 (a+1)))
  else
   (bif m then
    (F277 l).bind λr=>
    some (.inr (Redir.mk 5 b r (Word.mk 0 [] [] [] []) false,IntKind.wrap .i64 (a+1)))
   else
    Q9o d e f g a j b))
 else
  Q9o d e f g a j n)
def F254(i:Y1)(f:Str)(g:List Token)(b:List Str)(a:Int):Option (Int ⊕ (Redir×Int)):=
 (F84 0 f g b a).bind λd=>
 (bif decide (d.kind_=4)then
  (lidx b a).bind λj=>
  (Q2u [48] (j.length:Int)).bind λl=>
  (Q0h d.quoted_ 49).bind λm=>
  some (.inr (Redir.mk 4 0 0 (Word.mk 1 j l [] []) (decide (0<=m)),IntKind.wrap .i64 (a+1)))
 else
  (Q0n d.text_ 1 (d.text_.length:Int)).bind λe=>
  (sidx d.text_ 0).bind λn=>
  (bif decide (n=60)then
   Q2x a i f g b (e,1,0)
  else
   (F42 e [62]).bind λo=>
   (bif o then
    (Q0n e 1 (e.length:Int)).bind λp=>
    Q2x a i f g b (p,3,1)
   else
    Q2x a i f g b (e,2,1))))
def S254(g:Y1):Spec:=mkS 254 (un4 (F254 g)) (λ(a,b,c,d)=>([.ref 0 0],[V10 a b c d])) (λ(a,b,c,d) r=>match r with|.inl n=>.boom (syn n)|.inr (e,f)=>.ret [.pv (PV.agg [.int .i64 e.kind_,.int .i64 e.fd_,.int .i64 e.from_,.int .i64 e.word_.kind_,.str e.word_.text_,.str e.word_.quoted_,.slice (List.map Word.pv e.word_.words_),.slice (List.map Cmd.pv e.word_.cmd_),.bool e.raw_])] [V10 a b c f])
def Z1w(b:Str)(d:List Token)(e:List Str)(g:Y1)(i:Token)(j:List Cmd)(l:(Int×(List Redir))->Option (Int ⊕ (Cmd×Int))):(Int×(List Redir))->Option (Int ⊕ (Cmd×Int)):=λ(a,f)=>
 (F84 0 b d e a).bind λm=>
 (F130 m).bind λn=>
 (bif n then
  Q0i (F254 g b d e a) λ(o,p)=>
  (appO 120 f [o]).bind λq=>
  l (p,q)
 else
  some (.inr (Cmd.mk 12 i.at_ [] [] f j,a)))
def F225(f:Y0)(g:Y1)(a:Str)(b:List Token)(d:List Str)(e:Int):Option (Int ⊕ (Cmd×Int)):=
 (F84 0 a b d e).bind λi=>
 Q0i (F253 f a b d e) λ(j,l)=>
 iter (Z1w a b d g i j) BIG (l,([]:List Redir))
def SQ15(n:FuncId)(F:Str->(List Token)->(List Str)->Int->Option (Int ⊕ (Cmd×Int))):Spec:=mkS n (un4 F) (λ(a,b,c,d)=>([.ref 0 0],[V10 a b c d])) (λ(a,b,c,d) r=>match r with|.inl n=>.boom (syn n)|.inr (e,f)=>.ret [.pv (PV.agg [.int .i64 e.kind_,.int .i64 e.at_,.str e.name_,.slice (List.map Word.pv e.words_),.slice (List.map Redir.pv e.redirs_),.slice (List.map Cmd.pv e.kids_)])] [V10 a b c f])
def S225(a:Y0)(b:Y1):=SQ15 225 (F225 a b)
def F226(e:Y0)(Q0k:Int)(g:Bool)(a:Str)(b:List Token)(d:List Str)(f:Int):Option (Int ⊕ (Cmd×Int)):=
 (F84 0 a b d f).bind λi=>
 Q0i (F255 [40] a b d (IntKind.wrap .i64 (f+1))) λ(j,l)=>
 Q0i (F47 e false a b d l) λ(m,n)=>
 Q0i (F255 [41] a b d n) λ(t,o)=>
 (F168 a b d o).bind λp=>
 Q0i (e g a b d p) λ(q,r)=>
 some (.inr (Cmd.mk Q0k i.at_ [] [] [] [Cmd.mk 12 j [] [] [] m,q],r))
def S226(i:Y0):Spec:=mkS 226 (un6 (F226 i)) (λ(a,b,c,d,e,f)=>([.ref 0 0,ai a,ab b],[V10 c d e f])) (λ(a,b,c,d,e,f) r=>match r with|.inl n=>.boom (syn n)|.inr (g,h)=>.ret [.pv (PV.agg [.int .i64 g.kind_,.int .i64 g.at_,.str g.name_,.slice (List.map Word.pv g.words_),.slice (List.map Redir.pv g.redirs_),.slice (List.map Cmd.pv g.kids_)])] [V10 c d e h])
def F256(d:Str)(e:List Token)(f:List Str)(a:Int):Option (Int ⊕ (Str×Int)):=
 (F84 0 d e f a).bind λb=>
 (F133 b).bind λg=>
 (Q0e g (F144 b.text_)).bind λi=>
 (bif (!g||!i)then
  Q0i (F48 d e f a) λ_=>
  some (.inr (b.text_,IntKind.wrap .i64 (a+1)))
 else
  some (.inr (b.text_,IntKind.wrap .i64 (a+1))))
def S256:Spec:=mkS 256 (un4 F256) (λ(a,b,c,d)=>([.ref 0 0],[V10 a b c d])) (λ(a,b,c,d) r=>match r with|.inl n=>.boom (syn n)|.inr (e,f)=>.ret [as_ e] [V10 a b c f])
def Z1u(a:Str)(b:List Token)(d:List Str)(g:Y1)(i:(Int×(List Word))->Option (Int ⊕ ((List Word)×Int))):(Int×(List Word))->Option (Int ⊕ ((List Word)×Int)):=λ(j,f)=>
 (F168 a b d j).bind λe=>
 (F84 0 a b d e).bind λl=>
 (F129 l).bind λm=>
 (bif !m then
  some (.inr (f,e))
 else
  Q0i (g a b d e) λ(n,o)=>
  (appO 88 f [n]).bind λp=>
  i (o,p))
def F257(a:Y1)(b:Str)(d:List Token)(e:List Str)(f:Int):Option (Int ⊕ ((List Word)×Int)):=
 iter (Z1u b d e a) BIG (f,([]:List Word))
def S257(g:Y1):Spec:=mkS 257 (un4 (F257 g)) (λ(a,b,c,d)=>([.ref 0 0],[V10 a b c d])) (λ(a,b,c,d) r=>match r with|.inl n=>.boom (syn n)|.inr (e,f)=>.ret [.pv (.slice (List.map Word.pv e))] [V10 a b c f])
def F227(f:Y0)(m:Y1)(g:Bool)(a:Str)(b:List Token)(d:List Str)(i:Int):Option (Int ⊕ (Cmd×Int)):=
 (F84 0 a b d i).bind λj=>
 Q0i (F255 [40] a b d (IntKind.wrap .i64 (i+1))) λ(E,n)=>
 Q0i (F256 a b d n) λ(l,e)=>
 (F84 0 a b d e).bind λo=>
 (F83 o).bind λp=>
 (bif decide (p=[105,110])then
  Q0i (F257 m a b d (IntKind.wrap .i64 (e+1))) λ(q,r)=>
  Q0i (F255 [41] a b d r) λ(F,t)=>
  (F168 a b d t).bind λu=>
  Q0i (f g a b d u) λ(x,y)=>
  some (.inr (Cmd.mk 10 j.at_ l q [] [x],y))
 else
  Q0i (F255 [41] a b d e) λ(H,z)=>
  (F168 a b d z).bind λA=>
  Q0i (f g a b d A) λ(C,D)=>
  some (.inr (Cmd.mk 10 j.at_ l [Word.mk 2 [42] [] [] []] [] [C],D)))
def S227(a:Y0)(b:Y1):=SQ13 227 (F227 a b)
def Q9n(a:Str)(b:List Token)(d:List Str)(j:Y1)(l:Y0)(g:Token)(m:(Int×(List Word))->Option (Int ⊕ (Cmd×Int))):(Int×(List Word))->Option (Int ⊕ (Cmd×Int)):=λ(e,f)=>
 (F84 0 a b d e).bind λn=>
 (F129 n).bind λo=>
 (bif o then
  Q0i (j a b d e) λ(p,q)=>
  (appO 88 f [p]).bind λr=>
  m (q,r)
 else
  (F80 a b d e).bind λ(t,i)=>
  (bif t then
   Q0i (F47 l true a b d i) λ(u,x)=>
   some (.inr (Cmd.mk 18 g.at_ [] f [] u,x))
  else
   some (.inr (Cmd.mk 18 g.at_ [] f [] [],i))))
def F258(j:Y0)(e:Y1)(a:Str)(b:List Token)(d:List Str)(l:Int):Option (Int ⊕ (Cmd×Int)):=
 (F84 0 a b d l).bind λf=>
 Q0i (e a b d (IntKind.wrap .i64 (l+1))) λ(g,i)=>
 (F84 0 a b d i).bind λn=>
 (F129 n).bind λo=>
 (bif o then
  Q0i (e a b d i) λ(p,q)=>
  (appO 88 [g] [p]).bind λr=>
  iter (Q9n a b d e j f) BIG (q,r)
 else
  (F80 a b d i).bind λ(t,m)=>
  (bif t then
   Q0i (F47 j true a b d m) λ(u,x)=>
   some (.inr (Cmd.mk 18 f.at_ [] [g] [] u,x))
  else
   some (.inr (Cmd.mk 18 f.at_ [] [g] [] [],m))))
def S258(a:Y0)(b:Y1):=SQ15 258 (F258 a b)
def Z1v(a:Str)(b:List Token)(d:List Str)(g:Y0)(i:Y1)(j:Token)(l:Word)(m:(Int×(List Cmd))->Option (Int ⊕ (Cmd×Int))):(Int×(List Cmd))->Option (Int ⊕ (Cmd×Int)):=λ(e,f)=>
 (F84 0 a b d e).bind λn=>
 (F83 n).bind λo=>
 (bif decide (o=[99,97,115,101])then
  Q0i (F258 g i a b d e) λ(p,q)=>
  (appO 104 f [p]).bind λr=>
  m (q,r)
 else
  Q0i (F255 [125] a b d e) λ(u,t)=>
  some (.inr (Cmd.mk 17 j.at_ [] [l] [] f,t)))
def F228(g:Y0)(e:Y1)(a:Str)(b:List Token)(d:List Str)(f:Int):Option (Int ⊕ (Cmd×Int)):=
 (F84 0 a b d f).bind λi=>
 Q0i (e a b d (IntKind.wrap .i64 (f+1))) λ(j,l)=>
 Q0i (F255 [123] a b d l) λ(o,m)=>
 (F80 a b d m).bind λ(p,n)=>
 iter (Z1v a b d g e i j) BIG (n,([]:List Cmd))
def S228(a:Y0)(b:Y1):=SQ15 228 (F228 a b)
def F229(m:Y0)(a:Str)(b:List Token)(d:List Str)(i:Int):Option (Int ⊕ (Cmd×Int)):=
 (F84 0 a b d i).bind λe=>
 Q0i (F256 a b d (IntKind.wrap .i64 (i+1))) λ(f,g)=>
 (F127 [123] a b d g).bind λn=>
 (bif !n then
  some (.inr (Cmd.mk 15 e.at_ f [] [] [],g))
 else
  Q0i (F253 m a b d g) λ(j,l)=>
  (bif decide ((j.length:Int)=0)then
   some (.inr (Cmd.mk 15 e.at_ f [] [] [Cmd.mk 12 0 [] [] [] []],l))
  else
   some (.inr (Cmd.mk 15 e.at_ f [] [] j,l))))
def S229(a:Y0):=SQ15 229 (F229 a)
def Q9q(b:Str)(d:List Token)(e:List Str)(g:Y1)(i:Token)(j:(Int×(List Word))->Option (Int ⊕ (Cmd×Int))):(Int×(List Word))->Option (Int ⊕ (Cmd×Int)):=λ(a,f)=>
 (F84 0 b d e a).bind λl=>
 (F129 l).bind λm=>
 (bif m then
  Q0i (g b d e a) λ(n,o)=>
  (appO 88 f [n]).bind λp=>
  j (o,p)
 else
  some (.inr (Cmd.mk 16 i.at_ [] f [] [],a)))
def F230(e:Y1)(a:Str)(b:List Token)(d:List Str)(g:Int):Option (Int ⊕ (Cmd×Int)):=
 (F84 0 a b d g).bind λi=>
 Q0i (e a b d (IntKind.wrap .i64 (g+1))) λ(j,f)=>
 (F84 0 a b d f).bind λl=>
 (F129 l).bind λm=>
 (bif m then
  Q0i (e a b d f) λ(n,o)=>
  (appO 88 [j] [n]).bind λp=>
  iter (Q9q a b d e i) BIG (o,p)
 else
  some (.inr (Cmd.mk 16 i.at_ [] [j] [] [],f)))
def S230(a:Y1):=SQ15 230 (F230 a)
def Q4x(e:Str)(f:List Token)(g:List Str)(m:Y1)(n:Token)(i:(Int×(List Word)×(List Redir))->Option (Int ⊕ (Cmd×Int))):(Int×(List Word)×(List Redir))->Option (Int ⊕ (Cmd×Int)):=λ(a,b,d)=>
 (F84 0 e f g a).bind λj=>
 (Q0e (decide ((b.length:Int)=0)&&decide (0<(d.length:Int))) (F83 j)).bind λl=>
 (bif ((((decide ((b.length:Int)=0)&&decide (0<(d.length:Int)))&&!decide (l=[]))&&!decide (l=[110,111,116]))&&!decide (l=[105,110]))then
  Q0i (F48 e f g a) λ_=>
  i (a,b,d)
 else
  (F129 j).bind λo=>
  (bif o then
   Q0i (m e f g a) λ(p,q)=>
   (appO 88 b [p]).bind λr=>
   i (q,r,d)
  else
   (F130 j).bind λt=>
   (bif t then
    Q0i (F254 m e f g a) λ(u,x)=>
    (appO 120 d [u]).bind λy=>
    i (x,b,y)
   else
    some (.inr (Cmd.mk 1 n.at_ [] b d [],a)))))
def F231(f:Y1)(a:Str)(b:List Token)(d:List Str)(e:Int):Option (Int ⊕ (Cmd×Int)):=
 (F84 0 a b d e).bind λg=>
 iter (Q4x a b d f g) BIG (e,([]:List Word),([]:List Redir))
def S231(a:Y1):=SQ15 231 (F231 a)
def Q9s(g:Bool)(a:Str)(b:List Token)(d:List Str)(f:Y1):Int->Option (Int ⊕ (Cmd×Int)):=λe=>
 (F81 g a b d e).bind λi=>
 (bif !i then
  Q0i (F48 a b d e) λ_=>
  Q0i (F231 f a b d e) λ(j,l)=>
  some (.inr (j,l))
 else
  Q0i (F231 f a b d e) λ(m,n)=>
  some (.inr (m,n)))
def F200(f:Y0)(i:Y1)(g:Bool)(a:Str)(b:List Token)(d:List Str)(e:Int):Option (Int ⊕ (Cmd×Int)):=
 (F84 0 a b d e).bind λl=>
 (F84 1 a b d e).bind λn=>
 (F133 l).bind λm=>
 (Q0e m (F144 l.text_)).bind λo=>
 (Q0e (m&&o) (F128 n [61])).bind λp=>
 (bif ((m&&o)&&p)then
  Q0i (F223 f i g a b d e) λ(q,r)=>
  some (.inr (q,r))
 else
  (F128 l [33]).bind λt=>
  (bif t then
   Q0i (F224 f 7 1 g a b d e) λ(u,x)=>
   some (.inr (u,x))
  else
   (F128 l [64]).bind λy=>
   (bif y then
    Q0i (F224 f 13 1 g a b d e) λ(z,A)=>
    some (.inr (z,A))
   else
    (F128 l [123]).bind λC=>
    (bif C then
     Q0i (F225 f i a b d e) λ(D,E)=>
     some (.inr (D,E))
    else
     (F83 l).bind λj=>
     (bif decide (j=[105,102])then
      (F83 n).bind λF=>
      (bif decide (F=[110,111,116])then
       Q0i (F224 f 9 2 g a b d e) λ(H,I)=>
       some (.inr (H,I))
      else
       Q0i (F226 f 8 g a b d e) λ(J,K)=>
       some (.inr (J,K)))
     else
      (bif decide (j=[119,104,105,108,101])then
       Q0i (F226 f 11 g a b d e) λ(L,M)=>
       some (.inr (L,M))
      else
       (bif decide (j=[102,111,114])then
        Q0i (F227 f i g a b d e) λ(N,O)=>
        some (.inr (N,O))
       else
        (bif decide (j=[115,119,105,116,99,104])then
         Q0i (F228 f i a b d e) λ(P,Q)=>
         some (.inr (P,Q))
        else
         (bif decide (j=[102,110])then
          Q0i (F229 f a b d e) λ(S,T)=>
          some (.inr (S,T))
         else
          (bif decide (j=[126])then
           Q0i (F230 i a b d e) λ(U,V)=>
           some (.inr (U,V))
          else
           (bif decide (j=[99,97,115,101])then
            Q0i (F48 a b d (IntKind.wrap .i64 (e+1))) λ_=>
            Q9s g a b d i (IntKind.wrap .i64 (e+1))
           else
            Q9s g a b d i e)))))))))))
def S200:=SQ13 200
def Z9r(a:Str)(b:List Token)(d:List Str)(e:Int)(f:Str)(g:List Word):Unit->Option (Int ⊕ (Word×Int)):=λ_=>
 Q0i (F255 [41] a b d e) λ(j,i)=>
 some (.inr (Word.mk 7 f [] g [],i))
def F286(m:Y1)(a:Str)(b:List Token)(d:List Str)(j:Int):Option (Int ⊕ (Word×Int)):=
 (F84 0 a b d j).bind λl=>
 Q0i (F256 a b d j) λ(f,e)=>
 (F127 [40] a b d e).bind λn=>
 (bif !n then
  some (.inr (Word.mk 2 f [] [] [],e))
 else
  (F84 0 a b d e).bind λo=>
  (bif !decide (o.at_=IntKind.wrap .i64 (l.at_+(l.text_.length:Int)))then
   some (.inr (Word.mk 2 f [] [] [],e))
  else
   Q0i (F257 m a b d (IntKind.wrap .i64 (e+1))) λ(g,i)=>
   (bif decide ((g.length:Int)=0)then
    Q0i (F48 a b d i) λ_=>
    Z9r a b d i f g ()
   else
    Z9r a b d i f g ())))
def SQ16(n:FuncId)(F:Str->(List Token)->(List Str)->Int->Option (Int ⊕ (Word×Int))):Spec:=mkS n (un4 F) (λ(a,b,c,d)=>([.ref 0 0],[V10 a b c d])) (λ(a,b,c,d) r=>match r with|.inl n=>.boom (syn n)|.inr (e,f)=>.ret [.pv (PV.agg [.int .i64 e.kind_,.str e.text_,.str e.quoted_,.slice (List.map Word.pv e.words_),.slice (List.map Cmd.pv e.cmd_)])] [V10 a b c f])
def S286(a:Y1):=SQ16 286 (F286 a)
def Z4m(a:Token)(b:Int)(g:Y1)(d:Str)(e:List Token)(f:List Str)(i:Y0):Unit->Option (Int ⊕ (Word×Int)):=λ_=>
 (bif decide (a.kind_=1)then
  some (.inr (Word.mk 1 a.text_ a.quoted_ [] [],IntKind.wrap .i64 (b+1)))
 else
  (bif decide (a.text_=[36])then
   Q0i (F286 g d e f (IntKind.wrap .i64 (b+1))) λ(j,l)=>
   some (.inr (j,l))
  else
   (bif decide (a.text_=[36,35])then
    Q0i (F256 d e f (IntKind.wrap .i64 (b+1))) λ(m,n)=>
    some (.inr (Word.mk 3 m [] [] [],n))
   else
    (bif decide (a.text_=[40])then
     Q0i (F257 g d e f (IntKind.wrap .i64 (b+1))) λ(o,p)=>
     Q0i (F255 [41] d e f p) λ(u,q)=>
     some (.inr (Word.mk 5 [] [] o [],q))
    else
     Q0i (F253 i d e f (IntKind.wrap .i64 (b+1))) λ(r,t)=>
     some (.inr (Word.mk 6 [] [] [] r,t))))))
def F274(g:Y0)(i:Y1)(a:Str)(b:List Token)(d:List Str)(e:Int):Option (Int ⊕ (Word×Int)):=
 (F84 0 a b d e).bind λf=>
 (F129 f).bind λj=>
 (bif !j then
  Q0i (F48 a b d e) λ_=>
  Z4m f e i a b d g ()
 else
  Z4m f e i a b d g ())
def S274(a:Y0)(b:Y1):=SQ16 274 (F274 a b)
def Q9p(d:Str)(e:List Token)(f:List Str)(g:Y0)(i:Y1)(j:(Int×(List Word))->Option (Int ⊕ (Word×Int))):(Int×(List Word))->Option (Int ⊕ (Word×Int)):=λ(l,a)=>
 (F132 [94] d e f l).bind λ(m,b)=>
 (bif m then
  Q0i (F274 g i d e f b) λ(n,o)=>
  (appO 88 a [n]).bind λp=>
  j (o,p)
 else
  (bif decide ((a.length:Int)=1)then
   (lidx a 0).bind λq=>
   some (.inr (q,b))
  else
   some (.inr (Word.mk 4 [] [] a [],b))))
def F252(f:Y0)(g:Y1)(a:Str)(b:List Token)(d:List Str)(j:Int):Option (Int ⊕ (Word×Int)):=
 Q0i (F274 f g a b d j) λ(e,l)=>
 (F132 [94] a b d l).bind λ(m,i)=>
 (bif m then
  Q0i (F274 f g a b d i) λ(n,o)=>
  (appO 88 [e] [n]).bind λp=>
  iter (Q9p a b d f g) BIG (o,p)
 else
  (bif decide (([e].length:Int)=1)then
   some (.inr (e,i))
  else
   some (.inr (Word.mk 4 [] [] [e] [],i))))
def S252:=SQ16 252
mutual
def K200:Nat->Bool->Str->(List Token)->(List Str)->Int->Option (Int ⊕ (Cmd×Int))
 | 0=>λ_ _ _ _ _=>none
 | n+1=>F200 (K200 n) (K252 n)
def K252:Nat->Str->(List Token)->(List Str)->Int->Option (Int ⊕ (Word×Int))
 | 0=>λ_ _ _ _=>none
 | n+1=>F252 (K200 n) (K252 n)
end
def F20(b:Str)(a:List Token):Option ((List Cmd)×Int×Int):=
 (F46 b a).bind λd=>
 match F47 (K200 BIG) false b a d 0 with
 | none=>none
 | some (.inl n)=>some ([],n,47)
 | some (.inr (f,e))=>
  (bif decide (e<(a.length:Int))then
   match F48 b a d e with
   | some (.inl n)=>some ([],n,47)
   | _=>none
  else
   some (f,0,0))
def S20:Spec:=mkS 20 (un2 F20) (λ(a,b)=>([as_ a,.pv (.slice (List.map Token.pv b))],[])) (λ(a,b) (c,d,e)=>.ret [.pv (.slice (List.map Cmd.pv c)),ai d,ai e] [])
def F32(a:Redir):Option Bool:=
 some (!decide (a.kind_=5)&&!decide (a.kind_=6))
def S32:=SQ7 32 F32
def J7f(d:Cmd)(g:Y8)(i:(Int×Int)->Option Int)(j:Int)(e:(Int×Int)->Option Int):(Int×Int)->Option Int:=λ(b,a)=>
 (bif decide (a<(d.redirs_.length:Int))then
  (lidx d.redirs_ a).bind λf=>
  (F32 f).bind λl=>
  (bif l then
   (g f.word_).bind λm=>
   e (IntKind.wrap .i64 (b+m),IntKind.wrap .i64 (a+1))
  else
   e (b,IntKind.wrap .i64 (a+1)))
 else
  i (b,IntKind.wrap .i64 (j+1)))
def X3m(a:Cmd)(d:Y8)(f:(Int×Int)->Option Int)(g:Int)(i:(Int×Int)->Option Int):(Int×Int)->Option Int:=λ(e,b)=>
 (bif decide (b<(a.words_.length:Int))then
  (lidx a.words_ b).bind λj=>
  (d j).bind λl=>
  i (IntKind.wrap .i64 (e+l),IntKind.wrap .i64 (b+1))
 else
  iter (J7f a d f g) BIG (e,0))
def J2f(d:List Cmd)(f:Y6)(g:Y8)(i:(Int×Int)->Option Int):(Int×Int)->Option Int:=λ(e,a)=>
 (bif decide (a<(d.length:Int))then
  (lidx d a).bind λb=>
  (f b.kids_).bind λj=>
  iter (X3m b g i a) BIG (IntKind.wrap .i64 (e+(IntKind.wrap .i64 ((IntKind.wrap .i64 (1+(b.redirs_.length:Int)))+j))),0)
 else
  some e)
def F15(a:Y6)(b:Y8)(d:List Cmd):Option Int:=
 iter (J2f d a b) BIG (0,0)
def S15:=SQ1 15
def K2b(w1:Word)(d:Y8)(e:(Int×Int)->Option Int):(Int×Int)->Option Int:=λ(b,a)=>
 (bif decide (a<(w1.words_.length:Int))then
  (lidx w1.words_ a).bind λf=>
  (d f).bind λg=>
  e (IntKind.wrap .i64 (b+g),IntKind.wrap .i64 (a+1))
 else
  some b)
def F31(a:Y6)(b:Y8)(w1:Word):Option Int:=
 (a w1.cmd_).bind λd=>
 iter (K2b w1 b) BIG (IntKind.wrap .i64 (1+d),0)
def SQ17(n:FuncId)(F:Word->Option (Int)):Spec:=mkS n F (λa=>([.pv (PV.agg [.int .i64 a.kind_,.str a.text_,.str a.quoted_,.slice (List.map Word.pv a.words_),.slice (List.map Cmd.pv a.cmd_)])],[])) (λa b=>.ret [ai b] [])
def S31:=SQ17 31
mutual
def K15:Nat->(List Cmd)->Option (Int)
 | 0=>λ_=>none
 | n+1=>F15 (K15 n) (K31 n)
def K31:Nat->Word->Option (Int)
 | 0=>λ_=>none
 | n+1=>F31 (K15 n) (K31 n)
end
def J7b(d:Cmd)(g:Y8)(e:(Int×Int)->Option Int):(Int×Int)->Option Int:=λ(b,a)=>
 (bif decide (a<(d.redirs_.length:Int))then
  (lidx d.redirs_ a).bind λf=>
  (F32 f).bind λi=>
  (bif i then
   (g f.word_).bind λj=>
   e (imax b j,IntKind.wrap .i64 (a+1))
  else
   e (b,IntKind.wrap .i64 (a+1)))
 else
  some (IntKind.wrap .i64 (b+1)))
def X3f(a:Cmd)(d:Y8)(f:(Int×Int)->Option Int):(Int×Int)->Option Int:=λ(e,b)=>
 (bif decide (b<(a.words_.length:Int))then
  (lidx a.words_ b).bind λg=>
  (d g).bind λi=>
  f (imax e i,IntKind.wrap .i64 (b+1))
 else
  iter (J7b a d) BIG (e,0))
def K1x(a:Cmd)(e:Y13)(f:Y8)(g:(Int×Int)->Option Int):(Int×Int)->Option Int:=λ(d,b)=>
 (bif decide (b<(a.kids_.length:Int))then
  (lidx a.kids_ b).bind λi=>
  (e i).bind λj=>
  g (imax d j,IntKind.wrap .i64 (b+1))
 else
  iter (X3f a f) BIG (d,0))
def F51(a:Y13)(b:Y8)(d:Cmd):Option Int:=
 iter (K1x d a b) BIG (0,0)
def S51(F:Cmd->Option (Int)):Spec:=mkS 51 F (λa=>([.pv (PV.agg [.int .i64 a.kind_,.int .i64 a.at_,.str a.name_,.slice (List.map Word.pv a.words_),.slice (List.map Redir.pv a.redirs_),.slice (List.map Cmd.pv a.kids_)])],[])) (λa b=>.ret [ai b] [])
def X3c(w1:Word)(d:Y13)(e:(Int×Int)->Option Int):(Int×Int)->Option Int:=λ(b,a)=>
 (bif decide (a<(w1.cmd_.length:Int))then
  (lidx w1.cmd_ a).bind λf=>
  (d f).bind λg=>
  e (imax b g,IntKind.wrap .i64 (a+1))
 else
  some (IntKind.wrap .i64 (b+1)))
def K1p(w1:Word)(d:Y8)(e:Y13)(f:(Int×Int)->Option Int):(Int×Int)->Option Int:=λ(b,a)=>
 (bif decide (a<(w1.words_.length:Int))then
  (lidx w1.words_ a).bind λg=>
  (d g).bind λi=>
  f (imax b i,IntKind.wrap .i64 (a+1))
 else
  iter (X3c w1 e) BIG (b,0))
def F86(a:Y13)(b:Y8)(w1:Word):Option Int:=
 iter (K1p w1 b a) BIG (0,0)
def S86:=SQ17 86
mutual
def K51:Nat->Cmd->Option (Int)
 | 0=>λ_=>none
 | n+1=>F51 (K51 n) (K86 n)
def K86:Nat->Word->Option (Int)
 | 0=>λ_=>none
 | n+1=>F86 (K51 n) (K86 n)
end
def F50(a:Cmd):Option Bool:=
 (K51 BIG a).bind λb=>
 some (decide (32<b))
def S50:=SQ4 50 F50
def K1t(b:List Cmd)(d:Int->Option Int):Int->Option Int:=λa=>
 (bif decide (a<(b.length:Int))then
  (lidx b a).bind λe=>
  (F50 e).bind λf=>
  (bif f then
   some a
  else
   d (IntKind.wrap .i64 (a+1)))
 else
  some (-1))
def F85(a:List Cmd):Option Int:=
 iter (K1t a) BIG 0
def S85:Spec:=mkS 85 F85 (λa=>([.pv (.slice (List.map Cmd.pv a)),.fn 50 []],[])) (λa b=>.ret [ai b] [])
def F49(a:List Cmd):Option Bool:=
 (F85 a).bind λb=>
 some (decide (0<=b))
def S49:Spec:=mkS 49 F49 (λa=>([.pv (.slice (List.map Cmd.pv a)),.fn 50 []],[])) (λa b=>.ret [ab b] [])
def F21(a:List Cmd):Option Bool:=
 (K15 BIG a).bind λb=>
 (bif decide (b<=1024)then
  (F49 a).bind λd=>
  some (!d)
 else
  some false)
def S21:=SQ0 21 F21
def F8(a:Str):Option ((List Cmd)×Int×Int):=
 (F19 a).bind λ(f,g,b)=>
 (bif !decide (b=0)then
  some ([],g,b)
 else
  (F20 a f).bind λ(d,i,e)=>
  (bif !decide (e=0)then
   some ([],i,e)
  else
   (F21 d).bind λj=>
   (bif !j then
    some ([],0,4)
   else
    some (d,0,0))))
def S8:Spec:=mkS 8 F8 (λa=>([as_ a],[])) (λa (b,c,d)=>.ret [.pv (.slice (List.map Cmd.pv b)),ai c,ai d] [])
def F99(a:Cmd)(b:Shape):Option Bool:=
 (F144 a.name_).bind λd=>
 (bif (!(b.name_==d)||(!b.name_&&!decide (a.name_=[])))then
  some false
 else
  some ((b.words_||decide ((a.words_.length:Int)=0))&&(b.redirs_||decide ((a.redirs_.length:Int)=0))))
def S99:Spec:=mkS 99 (un2 F99) (λ(a,b)=>([.pv (PV.agg [.int .i64 a.kind_,.int .i64 a.at_,.str a.name_,.slice (List.map Word.pv a.words_),.slice (List.map Redir.pv a.redirs_),.slice (List.map Cmd.pv a.kids_)]),.pv (PV.agg [.bool b.name_,.bool b.words_,.bool b.redirs_])],[])) (λ(a,b) c=>.ret [ab c] [])
def F64(d:Y4)(a:Cmd):Option Bool:=
 (bif !decide (a.kind_=14)then
  (d a).bind λe=>
  some e
 else
  (F99 a (Shape.mk false false false)).bind λb=>
  (Q0e (b&&decide ((a.kids_.length:Int)=1)) (lidx a.kids_ 0)).bind λf=>
  (Q0e (b&&decide ((a.kids_.length:Int)=1)) (d f)).bind λg=>
  some ((b&&decide ((a.kids_.length:Int)=1))&&g))
def S64(a:Y4):=SQ4 64 (F64 a)
def F63(a:Y4)(b:Cmd):Option Bool:=
 (F64 a b).bind λd=>
 some (!d)
def S63(a:Y4):=SQ4 63 (F63 a)
def J4j(b:List Cmd)(d:Y4)(e:Int->Option Int):Int->Option Int:=λa=>
 (bif decide (a<(b.length:Int))then
  (lidx b a).bind λf=>
  (F63 d f).bind λg=>
  (bif g then
   some a
  else
   e (IntKind.wrap .i64 (a+1)))
 else
  some (-1))
def K1s(a:Y4)(b:List Cmd):Option Int:=
 iter (J4j b a) BIG 0
def K5r(d:Y4):Spec:=mkS 85 (K1s d) (λa=>([.pv (.slice (List.map Cmd.pv a)),.fn 63 []],[])) (λa b=>.ret [ai b] [])
def K1y(a:Y4)(b:List Cmd):Option Bool:=
 (K1s a b).bind λd=>
 some (decide (0<=d))
def K5t(d:Y4):Spec:=mkS 49 (K1y d) (λa=>([.pv (.slice (List.map Cmd.pv a)),.fn 63 []],[])) (λa b=>.ret [ab b] [])
def F29(a:Y4)(b:List Cmd):Option Bool:=
 (K1y a b).bind λd=>
 some (!d)
def S29(a:Y4):=SQ0 29 (F29 a)
def F183(a:Y4)(k1:Cmd):Option Bool:=
 (a k1).bind λb=>
 some (!b)
def S183(a:Y4):=SQ4 183 (F183 a)
def J4i(b:List Cmd)(d:Y4)(e:Int->Option Int):Int->Option Int:=λa=>
 (bif decide (a<(b.length:Int))then
  (lidx b a).bind λf=>
  (F183 d f).bind λg=>
  (bif g then
   some a
  else
   e (IntKind.wrap .i64 (a+1)))
 else
  some (-1))
def K1r(a:Y4)(b:List Cmd):Option Int:=
 iter (J4i b a) BIG 0
def V2l(d:Y4):Spec:=mkS 85 (K1r d) (λa=>([.pv (.slice (List.map Cmd.pv a)),.fn 183 []],[])) (λa b=>.ret [ai b] [])
def X6b(a:Y4)(b:List Cmd):Option Bool:=
 (K1r a b).bind λd=>
 some (decide (0<=d))
def V2n(d:Y4):Spec:=mkS 49 (X6b d) (λa=>([.pv (.slice (List.map Cmd.pv a)),.fn 183 []],[])) (λa b=>.ret [ab b] [])
def F143(b:Y4)(a:Cmd):Option Bool:=
 (bif !decide (a.kind_=3)then
  (b a).bind λd=>
  some d
 else
  (F99 a (Shape.mk false false false)).bind λe=>
  (bif (e&&decide (2<=(a.kids_.length:Int)))then
   (X6b b a.kids_).bind λf=>
   some (!f)
  else
   some false))
def S143(a:Y4):=SQ4 143 (F143 a)
def F98(f e:Y4)(a:Cmd):Option Bool:=
 (bif (!decide (a.kind_=5)&&!decide (a.kind_=6))then
  (F143 e a).bind λg=>
  some g
 else
  (F99 a (Shape.mk false false false)).bind λb=>
  (Q0e (b&&decide ((a.kids_.length:Int)=2)) (lidx a.kids_ 0)).bind λi=>
  (Q0e (b&&decide ((a.kids_.length:Int)=2)) (f i)).bind λd=>
  (Q0e ((b&&decide ((a.kids_.length:Int)=2))&&d) (lidx a.kids_ 1)).bind λj=>
  (Q0e ((b&&decide ((a.kids_.length:Int)=2))&&d) (F143 e j)).bind λl=>
  some (((b&&decide ((a.kids_.length:Int)=2))&&d)&&l))
def S98:=SQ4 98
def F261(a:Y3)(b:Word):Option Bool:=
 (a b).bind λd=>
 some (!d)
def S261(a:Y3):=SQ6 261 (F261 a)
def Z9s(b:List Word)(d:Y3)(e:Int->Option Int):Int->Option Int:=λa=>
 (bif decide (a<(b.length:Int))then
  (lidx b a).bind λf=>
  (F261 d f).bind λg=>
  (bif g then
   some a
  else
   e (IntKind.wrap .i64 (a+1)))
 else
  some (-1))
def J7d(a:Y3)(b:List Word):Option Int:=
 iter (Z9s b a) BIG 0
def K1h(d:Y3):Spec:=mkS 259 (J7d d) (λa=>([.pv (.slice (List.map Word.pv a)),.fn 261 []],[])) (λa b=>.ret [ai b] [])
def J2c(a:Y3)(b:List Word):Option Bool:=
 (J7d a b).bind λd=>
 some (decide (0<=d))
def K1i(d:Y3):Spec:=mkS 232 (J2c d) (λa=>([.pv (.slice (List.map Word.pv a)),.fn 261 []],[])) (λa b=>.ret [ab b] [])
def F234(a:Y3)(w1:Word):Option Bool:=
 (bif !decide (w1.kind_=4)then
  (a w1).bind λb=>
  some b
 else
  (bif (((decide (w1.text_=[])&&decide (w1.quoted_=[]))&&decide ((w1.cmd_.length:Int)=0))&&decide (2<=(w1.words_.length:Int)))then
   (J2c a w1.words_).bind λd=>
   some (!d)
  else
   some false))
def S234(a:Y3):=SQ6 234 (F234 a)
def F233(a:Y3)(w1:Word):Option Bool:=
 (F234 a w1).bind λb=>
 some (!b)
def S233(a:Y3):=SQ6 233 (F233 a)
def J9x(b:List Word)(d:Y3)(e:Int->Option Int):Int->Option Int:=λa=>
 (bif decide (a<(b.length:Int))then
  (lidx b a).bind λf=>
  (F233 d f).bind λg=>
  (bif g then
   some a
  else
   e (IntKind.wrap .i64 (a+1)))
 else
  some (-1))
def F259(a:Y3)(b:List Word):Option Int:=
 iter (J9x b a) BIG 0
def S259(d:Y3):Spec:=mkS 259 (F259 d) (λa=>([.pv (.slice (List.map Word.pv a)),.fn 233 []],[])) (λa b=>.ret [ai b] [])
def F232(a:Y3)(b:List Word):Option Bool:=
 (F259 a b).bind λd=>
 some (decide (0<=d))
def S232(d:Y3):Spec:=mkS 232 (F232 d) (λa=>([.pv (.slice (List.map Word.pv a)),.fn 233 []],[])) (λa b=>.ret [ab b] [])
def F207(a:Y3)(b:List Word):Option Bool:=
 (F232 a b).bind λd=>
 some (!d)
def S207(a:Y3):=SQ5 207 (F207 a)
def F208(b:Y4)(a:List Cmd):Option Bool:=
 (Q0e (decide ((a.length:Int)=1)) (lidx a 0)).bind λd=>
 (Q0e (decide ((a.length:Int)=1)) (b d)).bind λe=>
 some (decide ((a.length:Int)=1)&&e)
def S208(a:Y4):=SQ0 208 (F208 a)
def F108(a b:Str):Option Bool:=
 (F155 a b).bind λd=>
 some d
def S108:=SQ9 108 F108
def Z4n(w1:Word)(d:Int->Option Bool):Int->Option Bool:=λa=>
 (bif decide (a<(w1.quoted_.length:Int))then
  (sidx w1.quoted_ a).bind λb=>
  (bif (!decide (b=48)&&!decide (b=49))then
   some false
  else
   d (IntKind.wrap .i64 (a+1)))
 else
  some true)
def F263(w1:Word):Option Bool:=
 (bif !decide ((w1.text_.length:Int)=(w1.quoted_.length:Int))then
  some false
 else
  iter (Z4n w1) BIG 0)
def S263:=SQ6 263 F263
def F264(w1:Word):Option Bool:=
 some ((((decide (w1.kind_=0)&&decide (w1.text_=[]))&&decide (w1.quoted_=[]))&&decide ((w1.words_.length:Int)=0))&&decide ((w1.cmd_.length:Int)=0))
def S264:=SQ6 264 F264
def F237(d:Y3)(a:Redir):Option Bool:=
 (bif (((((decide (a.fd_<0)||decide (64<=a.fd_))||decide (a.from_<0))||decide (64<=a.from_))||(!decide (a.kind_=4)&&a.raw_))||(!decide (a.kind_=5)&&!decide (a.from_=0)))then
  some false
 else
  (bif (bif decide (a.kind_=1)then decide (a.kind_=1)else(bif decide (a.kind_=2)then decide (a.kind_=2)else decide (a.kind_=3)))then
   (F234 d a.word_).bind λe=>
   some e
  else
   (bif decide (a.kind_=4)then
    (Q0e (!(decide (a.word_.text_=[]))) (F108 a.word_.text_ [10])).bind λf=>
    (Q0e (((decide (a.fd_=0)&&decide (a.word_.kind_=1))&&decide ((a.word_.words_.length:Int)=0))&&decide ((a.word_.cmd_.length:Int)=0)) (F263 a.word_)).bind λb=>
    (Q0e ((((decide (a.fd_=0)&&decide (a.word_.kind_=1))&&decide ((a.word_.words_.length:Int)=0))&&decide ((a.word_.cmd_.length:Int)=0))&&b) (Q0h a.word_.quoted_ 49)).bind λg=>
    some ((((((decide (a.fd_=0)&&decide (a.word_.kind_=1))&&decide ((a.word_.words_.length:Int)=0))&&decide ((a.word_.cmd_.length:Int)=0))&&b)&&decide (g<0))&&(decide (a.word_.text_=[])||f))
   else
    (bif (bif decide (a.kind_=5)then decide (a.kind_=5)else decide (a.kind_=6))then
     (F264 a.word_).bind λi=>
     some i
    else
     some false))))
def S237(a:Y3):=SQ7 237 (F237 a)
def F236(a:Y3)(b:Redir):Option Bool:=
 (F237 a b).bind λd=>
 some (!d)
def S236(a:Y3):=SQ7 236 (F236 a)
def J9w(b:List Redir)(d:Y3)(e:Int->Option Int):Int->Option Int:=λa=>
 (bif decide (a<(b.length:Int))then
  (lidx b a).bind λf=>
  (F236 d f).bind λg=>
  (bif g then
   some a
  else
   e (IntKind.wrap .i64 (a+1)))
 else
  some (-1))
def F262(a:Y3)(b:List Redir):Option Int:=
 iter (J9w b a) BIG 0
def S262(d:Y3):Spec:=mkS 262 (F262 d) (λa=>([.pv (.slice (List.map Redir.pv a)),.fn 236 []],[])) (λa b=>.ret [ai b] [])
def F235(a:Y3)(b:List Redir):Option Bool:=
 (F262 a b).bind λd=>
 some (decide (0<=d))
def S235(d:Y3):Spec:=mkS 235 (F235 d) (λa=>([.pv (.slice (List.map Redir.pv a)),.fn 236 []],[])) (λa b=>.ret [ab b] [])
def F209(a:Y3)(b:List Redir):Option Bool:=
 (F235 a b).bind λd=>
 some (!d)
def S209(d:Y3):Spec:=mkS 209 (F209 d) (λa=>([.pv (.slice (List.map Redir.pv a))],[])) (λa b=>.ret [ab b] [])
def F210(d:Y4)(a:Cmd):Option Bool:=
 (Q0e (decide (a.kind_=12)) (F99 a (Shape.mk false false false))).bind λb=>
 (Q0e (decide (a.kind_=12)&&b) (F29 d a.kids_)).bind λe=>
 some ((decide (a.kind_=12)&&b)&&e)
def S210(a:Y4):=SQ4 210 (F210 a)
def F212(e:Y4)(f:Y3)(a:Cmd):Option Bool:=
 (Q0e (decide (a.kind_=18)) (F99 a (Shape.mk false true false))).bind λb=>
 (Q0e ((decide (a.kind_=18)&&b)&&decide (1<=(a.words_.length:Int))) (F207 f a.words_)).bind λd=>
 (Q0e (((decide (a.kind_=18)&&b)&&decide (1<=(a.words_.length:Int)))&&d) (F29 e a.kids_)).bind λg=>
 some ((((decide (a.kind_=18)&&b)&&decide (1<=(a.words_.length:Int)))&&d)&&g)
def S212(a:Y4)(b:Y3):=SQ4 212 (F212 a b)
def F211(a:Y4)(b:Y3)(k1:Cmd):Option Bool:=
 (F212 a b k1).bind λd=>
 some (!d)
def S211(a:Y4)(b:Y3):=SQ4 211 (F211 a b)
def J4h(b:List Cmd)(d:Y4)(e:Y3)(f:Int->Option Int):Int->Option Int:=λa=>
 (bif decide (a<(b.length:Int))then
  (lidx b a).bind λg=>
  (F211 d e g).bind λi=>
  (bif i then
   some a
  else
   f (IntKind.wrap .i64 (a+1)))
 else
  some (-1))
def K1q(a:Y4)(b:Y3)(d:List Cmd):Option Int:=
 iter (J4h d a b) BIG 0
def V2k(d:Y4)(e:Y3):Spec:=mkS 85 (K1q d e) (λa=>([.pv (.slice (List.map Cmd.pv a)),.fn 211 []],[])) (λa b=>.ret [ai b] [])
def X6a(a:Y4)(b:Y3)(d:List Cmd):Option Bool:=
 (K1q a b d).bind λe=>
 some (decide (0<=e))
def V2m(d:Y4)(e:Y3):Spec:=mkS 49 (X6a d e) (λa=>([.pv (.slice (List.map Cmd.pv a)),.fn 211 []],[])) (λa b=>.ret [ab b] [])
def Z4p:(Int×Str×Str×(List Word)×(List Cmd))->Option Bool:=λ(a,b,e,g,i)=>
 (Q0e (decide (a=1)) (Q0h e 49)).bind λd=>
 (Q0e (decide (a=1)&&decide (d<0)) (F134 b)).bind λf=>
 some ((!((decide (a=1)&&decide (d<0))&&f)||decide (b=[110,111,116]))||decide (b=[105,110]))
def F213(e:Y3)(a:Cmd):Option Bool:=
 (Q0e (!(decide (IntKind.wrap .i64 ((a.words_.length:Int)+(a.redirs_.length:Int))=0))) (F207 e a.words_)).bind λf=>
 (Q0e (!(decide (IntKind.wrap .i64 ((a.words_.length:Int)+(a.redirs_.length:Int))=0)||!f)) (F209 e a.redirs_)).bind λg=>
 (bif ((decide (IntKind.wrap .i64 ((a.words_.length:Int)+(a.redirs_.length:Int))=0)||!f)||!g)then
  some false
 else
  (bif decide ((a.words_.length:Int)=0)then
   some true
  else
   (lidx a.words_ 0).bind λb=>
   (bif decide (b.kind_=4)then
    (lidx b.words_ 0).bind λd=>
    Z4p (d.kind_,d.text_,d.quoted_,d.words_,d.cmd_)
   else
    Z4p (b.kind_,b.text_,b.quoted_,b.words_,b.cmd_))))
def S213(a:Y3):=SQ4 213 (F213 a)
def F182(e f:Y4)(b:Y3)(a:Cmd):Option Bool:=
 (bif decide (a.kind_=2)then
  (F99 a (Shape.mk true true false)).bind λg=>
  (Q0e (g&&decide ((a.words_.length:Int)=1)) (F207 b a.words_)).bind λm=>
  (Q0e (((g&&decide ((a.words_.length:Int)=1))&&m)&&!(decide ((a.kids_.length:Int)=0))) (F208 f a.kids_)).bind λx=>
  some (((g&&decide ((a.words_.length:Int)=1))&&m)&&(decide ((a.kids_.length:Int)=0)||x))
 else
  (bif (bif decide (a.kind_=7)then decide (a.kind_=7)else(bif decide (a.kind_=13)then decide (a.kind_=13)else decide (a.kind_=9)))then
   (F99 a (Shape.mk false false false)).bind λn=>
   (Q0e n (F208 f a.kids_)).bind λy=>
   some (n&&y)
  else
   (bif decide (a.kind_=12)then
    (F99 a (Shape.mk false false true)).bind λi=>
    (Q0e i (F29 e a.kids_)).bind λo=>
    (Q0e (i&&o) (F209 b a.redirs_)).bind λz=>
    some ((i&&o)&&z)
   else
    (bif (bif decide (a.kind_=8)then decide (a.kind_=8)else decide (a.kind_=11))then
     (F99 a (Shape.mk false false false)).bind λd=>
     (Q0e (d&&decide ((a.kids_.length:Int)=2)) (lidx a.kids_ 0)).bind λA=>
     (Q0e (d&&decide ((a.kids_.length:Int)=2)) (F210 e A)).bind λj=>
     (Q0e ((d&&decide ((a.kids_.length:Int)=2))&&j) (lidx a.kids_ 1)).bind λC=>
     (Q0e ((d&&decide ((a.kids_.length:Int)=2))&&j) (f C)).bind λD=>
     some (((d&&decide ((a.kids_.length:Int)=2))&&j)&&D)
    else
     (bif decide (a.kind_=10)then
      (F99 a (Shape.mk true true false)).bind λl=>
      (Q0e l (F207 b a.words_)).bind λp=>
      (Q0e (l&&p) (F208 f a.kids_)).bind λE=>
      some ((l&&p)&&E)
     else
      (bif decide (a.kind_=17)then
       (F99 a (Shape.mk false true false)).bind λq=>
       (Q0e (q&&decide ((a.words_.length:Int)=1)) (F207 b a.words_)).bind λF=>
       (bif ((q&&decide ((a.words_.length:Int)=1))&&F)then
        (X6a e b a.kids_).bind λH=>
        some (!H)
       else
        some false)
      else
       (bif decide (a.kind_=15)then
        (F99 a (Shape.mk true false false)).bind λr=>
        (Q0e r (F29 e a.kids_)).bind λI=>
        some (r&&I)
       else
        (bif decide (a.kind_=16)then
         (F99 a (Shape.mk false true false)).bind λt=>
         (Q0e ((t&&decide (1<=(a.words_.length:Int)))&&decide ((a.kids_.length:Int)=0)) (F207 b a.words_)).bind λJ=>
         some (((t&&decide (1<=(a.words_.length:Int)))&&decide ((a.kids_.length:Int)=0))&&J)
        else
         (bif decide (a.kind_=1)then
          (F99 a (Shape.mk false true true)).bind λu=>
          (Q0e (u&&decide ((a.kids_.length:Int)=0)) (F213 b a)).bind λK=>
          some ((u&&decide ((a.kids_.length:Int)=0))&&K)
         else
          some false)))))))))
def S182:=SQ4 182
def Q4w(w1:Word)(f:Int->Option Bool):Int->Option Bool:=λa=>
 (bif decide (a<(w1.text_.length:Int))then
  (sidx w1.quoted_ a).bind λb=>
  (Q0e (decide (b=48)) (sidx w1.text_ a)).bind λd=>
  (Q0e (decide (b=48)) (Q0h [32,9,10,59,38,124,40,41,123,125,60,62,61,94,96,36,39] d)).bind λe=>
  (Q0e (!(decide (b=48)&&decide (0<=e))&&(decide (b=48)&&decide (a=0))) (Q0h [35,33,64] d)).bind λg=>
  (bif ((decide (b=48)&&decide (0<=e))||((decide (b=48)&&decide (a=0))&&decide (0<=g)))then
   some false
  else
   f (IntKind.wrap .i64 (a+1)))
 else
  some true)
def F278(w1:Word):Option Bool:=
 (F263 w1).bind λa=>
 (bif !a then
  some false
 else
  iter (Q4w w1) BIG 0)
def S278:=SQ6 278 F278
def F260(d:Y4)(b:Y3)(w1:Word):Option Bool:=
 (F144 w1.text_).bind λa=>
 (bif decide (w1.kind_=1)then
  (Q0e (decide ((w1.words_.length:Int)=0)&&decide ((w1.cmd_.length:Int)=0)) (F278 w1)).bind λe=>
  some ((decide ((w1.words_.length:Int)=0)&&decide ((w1.cmd_.length:Int)=0))&&e)
 else
  (bif (bif decide (w1.kind_=2)then decide (w1.kind_=2)else decide (w1.kind_=3))then
   some (((a&&decide (w1.quoted_=[]))&&decide ((w1.cmd_.length:Int)=0))&&decide ((w1.words_.length:Int)=0))
  else
   (bif decide (w1.kind_=7)then
    (Q0e (((a&&decide (w1.quoted_=[]))&&decide ((w1.cmd_.length:Int)=0))&&decide (1<=(w1.words_.length:Int))) (F207 b w1.words_)).bind λf=>
    some ((((a&&decide (w1.quoted_=[]))&&decide ((w1.cmd_.length:Int)=0))&&decide (1<=(w1.words_.length:Int)))&&f)
   else
    (bif decide (w1.kind_=5)then
     (Q0e ((decide (w1.text_=[])&&decide (w1.quoted_=[]))&&decide ((w1.cmd_.length:Int)=0)) (F207 b w1.words_)).bind λg=>
     some (((decide (w1.text_=[])&&decide (w1.quoted_=[]))&&decide ((w1.cmd_.length:Int)=0))&&g)
    else
     (bif decide (w1.kind_=6)then
      (Q0e ((decide (w1.text_=[])&&decide (w1.quoted_=[]))&&decide ((w1.words_.length:Int)=0)) (F29 d w1.cmd_)).bind λi=>
      some (((decide (w1.text_=[])&&decide (w1.quoted_=[]))&&decide ((w1.words_.length:Int)=0))&&i)
     else
      some false)))))
def S260:=SQ6 260
mutual
def K98:Nat->Cmd->Option (Bool)
 | 0=>λ_=>none
 | n+1=>F98 (K98 n) (K182 n)
def K182:Nat->Cmd->Option (Bool)
 | 0=>λ_=>none
 | n+1=>F182 (K98 n) (K182 n) (K260 n)
def K260:Nat->Word->Option (Bool)
 | 0=>λ_=>none
 | n+1=>F260 (K98 n) (K260 n)
end
def F13(a:List Cmd):Option Bool:=
 (F21 a).bind λb=>
 (Q0e b (F29 (K98 BIG) a)).bind λd=>
 some (b&&d)
def S13:=SQ0 13 F13
def F36(a:Str)(b:List Redir):Option Str:=some a
def S36:Spec:=mkS 36 (un2 F36) (λ(a,b)=>([.ref 0 0],[.prn 5 a 51 9 (List.map Redir.pv b)])) (λ(a,b) c=>.ret [as_ c] [.prn 5 a 51 9 (List.map Redir.pv b)])
def F163(a:Str)(b:List Redir):Option Unit:=some ()
def S163:Spec:=mkS 163 (un2 F163) (λ(a,b)=>([.ref 0 0],[.prn 5 a 51 9 (List.map Redir.pv b)])) (λ(a,b) (_:Unit)=>.ret [] [.prn 5 a 51 9 (List.map Redir.pv b)])
def F123(a b:Str)(d:List Redir):Option (Int×Str):=
 (F163 b d).bind λ_=>
 (apS b a).bind λe=>
 some ((a.length:Int),e)
def S123:Spec:=mkS 123 (un3 F123) (λ(a,b,c)=>([.ref 0 0,as_ a],[.prn 5 b 51 9 (List.map Redir.pv c)])) (λ(a,b,c) (d,e)=>.ret [ai d,.pv (.nil)] [.prn 5 e 51 9 (List.map Redir.pv c)])
def X0i(b:List Str)(e:List Redir)(f:(Int×Str)->Option Str):(Int×Str)->Option Str:=λ(a,d)=>
 (bif decide (a<(b.length:Int))then
  (lidx b a).bind λg=>
  (F123 g d e).bind λ(j,i)=>
  f (IntKind.wrap .i64 (a+1),i)
 else
  some d)
def F103(a:List Str)(b:Str)(d:List Redir):Option Str:=
 iter (X0i a d) BIG (0,b)
def S103:Spec:=mkS 103 (un3 F103) (λ(a,b,c)=>([.ref 0 0,.pv (.slice (List.map PV.str a))],[.prn 5 b 51 9 (List.map Redir.pv c)])) (λ(a,b,c) d=>.ret [] [.prn 5 d 51 9 (List.map Redir.pv c)])
def Z4y(b:List Str)(d:Str->Option Str):Str->Option Str:=λa=>
 (Z0h b a).bind λe=>
 (bif e then
  (catO a [69]).bind λf=>
  d f
 else
  some a)
def F109(a:Str):Option Str:=
 (Z4i a [10]).bind λb=>
 iter (Z4y b) BIG [69]
def S109:Spec:=mkS 109 F109 (λa=>([as_ a],[])) (λa b=>.ret [as_ b] [])
def X3d(a:List Redir)(f:(Int×Str)->Option (Str×(List Redir))):(Int×Str)->Option (Str×(List Redir)):=λ(b,d)=>
 (bif decide (b<(a.length:Int))then
  (lidx a b).bind λe=>
  (F109 e.word_.text_).bind λg=>
  (F103 [e.word_.text_,g,[10]] d a).bind λi=>
  f (IntKind.wrap .i64 (b+1),i)
 else
  some (d,([]:List Redir)))
def J1x(a:List Redir):Str->Option (Str×(List Redir)):=λb=>
 (F103 [[10]] b a).bind λd=>
 iter (X3d a) BIG (0,d)
def F67(b:Str)(a:List Redir):Option (Str×(List Redir)):=
 (F36 b a).bind λd=>
 (F108 d [92]).bind λe=>
 (bif e then
  (F103 [[32]] b a).bind λf=>
  J1x a f
 else
  J1x a b)
def S67:Spec:=mkS 67 (un2 F67) (λ(a,b)=>([.ref 0 0],[.prn 5 a 51 9 (List.map Redir.pv b)])) (λ(a,b) (c,d)=>.ret [] [.prn 5 c 51 9 (List.map Redir.pv d)])
def X3g(b:List Cmd)(w66:Y5)(f:(Int×Str×(List Redir))->Option (Str×(List Redir))):(Int×Str×(List Redir))->Option (Str×(List Redir)):=λ(a,d,e)=>
 (bif decide (a<(b.length:Int))then
  (lidx b a).bind λg=>
  (w66 g d e).bind λ(i,j)=>
  (F67 i j).bind λ(l,m)=>
  f (IntKind.wrap .i64 (a+1),l,m)
 else
  some (d,e))
def F35(w66:Y5)(a:List Cmd)(b:Str)(d:List Redir):Option (Str×(List Redir)):=
 iter (X3g a w66) BIG (0,b,d)
def S35(w66:Y5):Spec:=mkS 35 (un3 (F35 w66)) (λ(a,b,c)=>([.ref 0 0,.pv (.slice (List.map Cmd.pv a))],[.prn 5 b 51 9 (List.map Redir.pv c)])) (λ(a,b,c) (d,e)=>.ret [] [.prn 5 d 51 9 (List.map Redir.pv e)])
def Z9x(e:List Cmd)(i:Str)(w66:Y5)(f:(Int×Str×(List Redir))->Option (Str×(List Redir))):(Int×Str×(List Redir))->Option (Str×(List Redir)):=λ(a,d,b)=>
 (bif decide (a<(e.length:Int))then
  (lidx e a).bind λg=>
  (bif decide (0<a)then
   (F103 [i] d b).bind λj=>
   (w66 g j b).bind λ(l,m)=>
   f (IntKind.wrap .i64 (a+1),l,m)
  else
   (w66 g d b).bind λ(n,o)=>
   f (IntKind.wrap .i64 (a+1),n,o))
 else
  some (d,b))
def F102(w66:Y5)(a:List Cmd)(b d:Str)(e:List Redir):Option (Str×(List Redir)):=
 iter (Z9x a b w66) BIG (0,d,e)
def S102(w66:Y5):Spec:=mkS 102 (un4 (F102 w66)) (λ(a,b,c,d)=>([.ref 0 0,.pv (.slice (List.map Cmd.pv a)),as_ b],[.prn 5 c 51 9 (List.map Redir.pv d)])) (λ(a,b,c,d) (e,f)=>.ret [] [.prn 5 e 51 9 (List.map Redir.pv f)])
def F104(w66:Y5)(d:Str)(e:List Cmd)(f g:Str)(a:List Redir):Option (Str×(List Redir)):=
 (F103 [d] g a).bind λi=>
 (F67 i a).bind λ(j,l)=>
 (F35 w66 e j l).bind λ(m,b)=>
 (F103 [f] m b).bind λn=>
 some (n,b)
def S104(w66:Y5):Spec:=mkS 104 (un5 (F104 w66)) (λ(a,b,c,d,e)=>([.ref 0 0,as_ a,.pv (.slice (List.map Cmd.pv b)),as_ c],[.prn 5 d 51 9 (List.map Redir.pv e)])) (λ(a,b,c,d,e) (f,g)=>.ret [] [.prn 5 f 51 9 (List.map Redir.pv g)])
def F188(a b:Int):Option Str:=
 (bif decide (a=b)then
  some []
 else
  (Q4z a).bind λd=>
  (catO [91] d).bind λe=>
  (catO e [93]).bind λf=>
  some f)
def S188:Spec:=mkS 188 (un2 F188) (λ(a,b)=>([ai a,ai b],[])) (λ(a,b) c=>.ret [as_ c] [])
def F151(w152:Y2)(a:Redir)(d:Str)(b:List Redir):Option (Str×(List Redir)):=
 (bif decide (a.kind_=1)then
  (F188 a.fd_ 0).bind λf=>
  (F103 [[60],f,[32]] d b).bind λg=>
  (w152 a.word_ g b).bind λ(i,j)=>
  some (i,j)
 else
  (bif decide (a.kind_=2)then
   (F188 a.fd_ 1).bind λl=>
   (F103 [[62],l,[32]] d b).bind λm=>
   (w152 a.word_ m b).bind λ(n,o)=>
   some (n,o)
  else
   (bif decide (a.kind_=3)then
    (F188 a.fd_ 1).bind λp=>
    (F103 [[62,62],p,[32]] d b).bind λq=>
    (w152 a.word_ q b).bind λ(r,t)=>
    some (r,t)
   else
    (bif decide (a.kind_=5)then
     (Q4z a.fd_).bind λu=>
     (Q4z a.from_).bind λx=>
     (F103 [[62,91],u,[61],x,[93]] d b).bind λy=>
     some (y,b)
    else
     (bif decide (a.kind_=6)then
      (Q4z a.fd_).bind λz=>
      (F103 [[62,91],z,[61,93]] d b).bind λA=>
      some (A,b)
     else
      (bif decide (a.kind_=4)then
       (appO 120 b [a]).bind λe=>
       (F109 a.word_.text_).bind λC=>
       (F103 [[60,60],(bif a.raw_ then[39]else[]),C,(bif a.raw_ then[39]else[])] d e).bind λD=>
       some (D,e)
      else
       (w152 a.word_ d b).bind λ(E,F)=>
       some (E,F)))))))
def S151(w152:Y2):Spec:=mkS 151 (un3 (F151 w152)) (λ(a,b,c)=>([.ref 0 0,.pv (PV.agg [.int .i64 a.kind_,.int .i64 a.fd_,.int .i64 a.from_,.int .i64 a.word_.kind_,.str a.word_.text_,.str a.word_.quoted_,.slice (List.map Word.pv a.word_.words_),.slice (List.map Cmd.pv a.word_.cmd_),.bool a.raw_])],[.prn 5 b 51 9 (List.map Redir.pv c)])) (λ(a,b,c) (d,e)=>.ret [] [.prn 5 d 51 9 (List.map Redir.pv e)])
def J4t(d:List Redir)(w152:Y2)(f:(Int×Str×(List Redir))->Option (Str×(List Redir))):(Int×Str×(List Redir))->Option (Str×(List Redir)):=λ(a,e,b)=>
 (bif decide (a<(d.length:Int))then
  (lidx d a).bind λg=>
  (F103 [[32]] e b).bind λi=>
  (F151 w152 g i b).bind λ(j,l)=>
  f (IntKind.wrap .i64 (a+1),j,l)
 else
  some (e,b))
def F105(w152:Y2)(a:List Redir)(b:Str)(d:List Redir):Option (Str×(List Redir)):=
 iter (J4t a w152) BIG (0,b,d)
def S105(w152:Y2):Spec:=mkS 105 (un3 (F105 w152)) (λ(a,b,c)=>([.ref 0 0,.pv (.slice (List.map Redir.pv a))],[.prn 5 b 51 9 (List.map Redir.pv c)])) (λ(a,b,c) (d,e)=>.ret [] [.prn 5 d 51 9 (List.map Redir.pv e)])
def Q9v(a:Cmd)(w152:Y2)(f:(Int×Str×(List Redir))->Option (Str×(List Redir))):(Int×Str×(List Redir))->Option (Str×(List Redir)):=λ(b,e,d)=>
 (bif decide (b<(a.words_.length:Int))then
  (lidx a.words_ b).bind λg=>
  (bif decide (0<b)then
   (F103 [[32]] e d).bind λi=>
   (w152 g i d).bind λ(j,l)=>
   f (IntKind.wrap .i64 (b+1),j,l)
  else
   (w152 g e d).bind λ(m,n)=>
   f (IntKind.wrap .i64 (b+1),m,n))
 else
  (bif (decide ((a.words_.length:Int)=0)&&decide (0<(a.redirs_.length:Int)))then
   (lidx a.redirs_ 0).bind λo=>
   (F151 w152 o e d).bind λ(p,q)=>
   (Q3n a.redirs_ 1 (a.redirs_.length:Int)).bind λr=>
   (F105 w152 r p q).bind λ(t,u)=>
   some (t,u)
  else
   (F105 w152 a.redirs_ e d).bind λ(x,y)=>
   some (x,y)))
def F106(w152:Y2)(a:Cmd)(b:Str)(d:List Redir):Option (Str×(List Redir)):=
 iter (Q9v a w152) BIG (0,b,d)
def SQ18(n:FuncId)(F:Cmd->Str->(List Redir)->Option (Str×(List Redir))):Spec:=mkS n (un3 F) (λ(a,b,c)=>([.ref 0 0,.pv (PV.agg [.int .i64 a.kind_,.int .i64 a.at_,.str a.name_,.slice (List.map Word.pv a.words_),.slice (List.map Redir.pv a.redirs_),.slice (List.map Cmd.pv a.kids_)])],[.prn 5 b 51 9 (List.map Redir.pv c)])) (λ(a,b,c) (d,e)=>.ret [] [.prn 5 d 51 9 (List.map Redir.pv e)])
def S106(w152:Y2):=SQ18 106 (F106 w152)
def J4q(d:List Word)(w152:Y2)(f:(Int×Str×(List Redir))->Option (Str×(List Redir))):(Int×Str×(List Redir))->Option (Str×(List Redir)):=λ(a,e,b)=>
 (bif decide (a<(d.length:Int))then
  (lidx d a).bind λg=>
  (F103 [[32]] e b).bind λi=>
  (w152 g i b).bind λ(j,l)=>
  f (IntKind.wrap .i64 (a+1),j,l)
 else
  some (e,b))
def F153(w152:Y2)(a:List Word)(b:Str)(d:List Redir):Option (Str×(List Redir)):=
 iter (J4q a w152) BIG (0,b,d)
def S153(w152:Y2):Spec:=mkS 153 (un3 (F153 w152)) (λ(a,b,c)=>([.ref 0 0,.pv (.slice (List.map Word.pv a))],[.prn 5 b 51 9 (List.map Redir.pv c)])) (λ(a,b,c) (d,e)=>.ret [] [.prn 5 d 51 9 (List.map Redir.pv e)])
def Z9u(d:Cmd)(w152:Y2)(w66:Y5)(g:(Int×Str×(List Redir))->Option (Str×(List Redir))):(Int×Str×(List Redir))->Option (Str×(List Redir)):=λ(b,e,a)=>
 (bif decide (b<(d.kids_.length:Int))then
  (lidx d.kids_ b).bind λf=>
  (F103 [[99,97,115,101]] e a).bind λi=>
  (F153 w152 f.words_ i a).bind λ(j,l)=>
  (F67 j l).bind λ(m,n)=>
  (F35 w66 f.kids_ m n).bind λ(o,p)=>
  g (IntKind.wrap .i64 (b+1),o,p)
 else
  (F103 [[125]] e a).bind λq=>
  some (q,a))
def F154(w66:Y5)(w152:Y2)(a:Cmd)(e:Str)(b:List Redir):Option (Str×(List Redir)):=
 (F103 [[115,119,105,116,99,104]] e b).bind λf=>
 (F153 w152 a.words_ f b).bind λ(g,d)=>
 (F103 [[32,123]] g d).bind λi=>
 (F67 i d).bind λ(j,l)=>
 iter (Z9u a w152 w66) BIG (0,j,l)
def S154(w66:Y5)(w152:Y2):=SQ18 154 (F154 w66 w152)
def F107(w66:Y5)(w152:Y2)(a:Cmd)(d:Str)(b:List Redir):Option (Str×(List Redir)):=
 (bif decide (a.kind_=2)then
  (F103 [a.name_,[61]] d b).bind λj=>
  (lidx a.words_ 0).bind λl=>
  (w152 l j b).bind λ(f,e)=>
  (bif decide (0<(a.kids_.length:Int))then
   (F103 [[32]] f e).bind λm=>
   (F102 w66 a.kids_ [] m e).bind λ(n,o)=>
   some (n,o)
  else
   (F102 w66 a.kids_ [] f e).bind λ(p,q)=>
   some (p,q))
 else
  (bif decide (a.kind_=8)then
   (lidx a.kids_ 0).bind λr=>
   (F104 w66 [105,102,40] r.kids_ [41,32] d b).bind λ(t,u)=>
   (lidx a.kids_ 1).bind λx=>
   (w66 x t u).bind λ(y,z)=>
   some (y,z)
  else
   (bif decide (a.kind_=11)then
    (lidx a.kids_ 0).bind λA=>
    (F104 w66 [119,104,105,108,101,40] A.kids_ [41,32] d b).bind λ(C,D)=>
    (lidx a.kids_ 1).bind λE=>
    (w66 E C D).bind λ(F,H)=>
    some (F,H)
   else
    (bif decide (a.kind_=10)then
     (F103 [[102,111,114,40],a.name_,[32,105,110]] d b).bind λI=>
     (F153 w152 a.words_ I b).bind λ(J,g)=>
     (F103 [[41,32]] J g).bind λK=>
     (F102 w66 a.kids_ [] K g).bind λ(L,M)=>
     some (L,M)
    else
     (bif decide (a.kind_=17)then
      (F154 w66 w152 a d b).bind λ(N,O)=>
      some (N,O)
     else
      (bif decide (a.kind_=15)then
       (F103 [[102,110,32],a.name_] d b).bind λi=>
       (bif decide (0<(a.kids_.length:Int))then
        (F104 w66 [32,123] a.kids_ [125] i b).bind λ(P,Q)=>
        some (P,Q)
       else
        some (i,b))
      else
       (bif decide (a.kind_=16)then
        (F103 [[126]] d b).bind λS=>
        (F153 w152 a.words_ S b).bind λ(T,U)=>
        some (T,U)
       else
        some (d,b))))))))
def S107(w66:Y5)(w152:Y2):=SQ18 107 (F107 w66 w152)
def F66(w66:Y5)(w152:Y2)(a:Cmd)(d:Str)(b:List Redir):Option (Str×(List Redir)):=
 (bif decide (a.kind_=14)then
  (F102 w66 a.kids_ [] d b).bind λ(f,e)=>
  (F103 [[32,38]] f e).bind λg=>
  some (g,e)
 else
  (bif decide (a.kind_=5)then
   (F102 w66 a.kids_ [32,38,38,32] d b).bind λ(i,j)=>
   some (i,j)
  else
   (bif decide (a.kind_=6)then
    (F102 w66 a.kids_ [32,124,124,32] d b).bind λ(l,m)=>
    some (l,m)
   else
    (bif decide (a.kind_=3)then
     (F102 w66 a.kids_ [32,124,32] d b).bind λ(n,o)=>
     some (n,o)
    else
     (bif decide (a.kind_=7)then
      (F103 [[33,32]] d b).bind λp=>
      (F102 w66 a.kids_ [] p b).bind λ(q,r)=>
      some (q,r)
     else
      (bif decide (a.kind_=13)then
       (F103 [[64,32]] d b).bind λt=>
       (F102 w66 a.kids_ [] t b).bind λ(u,x)=>
       some (u,x)
      else
       (bif decide (a.kind_=9)then
        (F103 [[105,102,32,110,111,116,32]] d b).bind λy=>
        (F102 w66 a.kids_ [] y b).bind λ(z,A)=>
        some (z,A)
       else
        (bif decide (a.kind_=12)then
         (F104 w66 [123] a.kids_ [125] d b).bind λ(C,D)=>
         (F105 w152 a.redirs_ C D).bind λ(E,F)=>
         some (E,F)
        else
         (bif decide (a.kind_=1)then
          (F106 w152 a d b).bind λ(H,I)=>
          some (H,I)
         else
          (F107 w66 w152 a d b).bind λ(J,K)=>
          some (J,K))))))))))
def S66:=SQ18 66
def Z4s(w1:Word)(b:Int)(d:Str)(e:List Redir)(f:(Int×Str)->Option Str)(i:Int->Option Str):Int->Option Str:=λa=>
 (Q0e (decide (a<(w1.text_.length:Int))) (sidx w1.quoted_ a)).bind λj=>
 (Q0e (decide (a<(w1.text_.length:Int))) (sidx w1.quoted_ b)).bind λl=>
 (bif (decide (a<(w1.text_.length:Int))&&decide (j=l))then
  i (IntKind.wrap .i64 (a+1))
 else
  (Q0n w1.text_ b a).bind λg=>
  (sidx w1.quoted_ b).bind λm=>
  (bif decide (m=49)then
   (Q2p g [39] [39,39]).bind λn=>
   (catO [39] n).bind λo=>
   (catO o [39]).bind λp=>
   (F103 [p] d e).bind λq=>
   f (a,q)
  else
   (F103 [g] d e).bind λr=>
   f (a,r)))
def Z1x(w1:Word)(d:List Redir)(e:(Int×Str)->Option Str):(Int×Str)->Option Str:=λ(a,b)=>
 (bif decide (a<(w1.text_.length:Int))then
  iter (Z4s w1 a b d e) BIG a
 else
  some b)
def Z4r(w1:Word)(a:List Redir):Str->Option Str:=λb=>
 iter (Z1x w1 a) BIG (0,b)
def F190(w1:Word)(b:Str)(a:List Redir):Option Str:=
 (bif decide (w1.text_=[])then
  (F103 [[39,39]] b a).bind λd=>
  Z4r w1 a d
 else
  Z4r w1 a b)
def S190:Spec:=mkS 190 (un3 F190) (λ(a,b,c)=>([.ref 0 0,.pv (PV.agg [.int .i64 a.kind_,.str a.text_,.str a.quoted_,.slice (List.map Word.pv a.words_),.slice (List.map Cmd.pv a.cmd_)])],[.prn 5 b 51 9 (List.map Redir.pv c)])) (λ(a,b,c) d=>.ret [] [.prn 5 d 51 9 (List.map Redir.pv c)])
def Z4q(e:List Word)(i:Str)(w152:Y2)(j:Str)(f:(Int×Str×(List Redir))->Option (Str×(List Redir))):(Int×Str×(List Redir))->Option (Str×(List Redir)):=λ(a,d,b)=>
 (bif decide (a<(e.length:Int))then
  (lidx e a).bind λg=>
  (bif decide (0<a)then
   (F103 [i] d b).bind λl=>
   (w152 g l b).bind λ(m,n)=>
   f (IntKind.wrap .i64 (a+1),m,n)
  else
   (w152 g d b).bind λ(o,p)=>
   f (IntKind.wrap .i64 (a+1),o,p))
 else
  (F103 [j] d b).bind λq=>
  some (q,b))
def F191(w152:Y2)(b:Str)(d:List Word)(e f g:Str)(a:List Redir):Option (Str×(List Redir)):=
 (F103 [b] g a).bind λi=>
 iter (Z4q d e w152 f) BIG (0,i,a)
def S191(w152:Y2):Spec:=mkS 191 (un6 (F191 w152)) (λ(a,b,c,d,e,f)=>([.ref 0 0,as_ a,.pv (.slice (List.map Word.pv b)),as_ c,as_ d],[.prn 5 e 51 9 (List.map Redir.pv f)])) (λ(a,b,c,d,e,f) (g,h)=>.ret [] [.prn 5 g 51 9 (List.map Redir.pv h)])
def F152(w66:Y5)(w152:Y2)(w1:Word)(b:Str)(a:List Redir):Option (Str×(List Redir)):=
 (bif decide (w1.kind_=1)then
  (F190 w1 b a).bind λd=>
  some (d,a)
 else
  (bif decide (w1.kind_=2)then
   (F103 [[36],w1.text_] b a).bind λe=>
   some (e,a)
  else
   (bif decide (w1.kind_=3)then
    (F103 [[36,35],w1.text_] b a).bind λf=>
    some (f,a)
   else
    (bif decide (w1.kind_=7)then
     (F103 [[36],w1.text_] b a).bind λg=>
     (F191 w152 [40] w1.words_ [32] [41] g a).bind λ(i,j)=>
     some (i,j)
    else
     (bif decide (w1.kind_=5)then
      (F191 w152 [40] w1.words_ [32] [41] b a).bind λ(l,m)=>
      some (l,m)
     else
      (bif decide (w1.kind_=4)then
       (F191 w152 [] w1.words_ [94] [] b a).bind λ(n,o)=>
       some (n,o)
      else
       (bif decide (w1.kind_=6)then
        (F104 w66 [96,123] w1.cmd_ [125] b a).bind λ(p,q)=>
        some (p,q)
       else
        some (b,a))))))))
def S152(F:Word->Str->(List Redir)->Option (Str×(List Redir))):Spec:=mkS 152 (un3 F) (λ(a,b,c)=>([.ref 0 0,.pv (PV.agg [.int .i64 a.kind_,.str a.text_,.str a.quoted_,.slice (List.map Word.pv a.words_),.slice (List.map Cmd.pv a.cmd_)])],[.prn 5 b 51 9 (List.map Redir.pv c)])) (λ(a,b,c) (d,e)=>.ret [] [.prn 5 d 51 9 (List.map Redir.pv e)])
mutual
def K66:Nat->Cmd->Str->(List Redir)->Option (Str×(List Redir))
 | 0=>λ_ _ _=>none
 | n+1=>F66 (K66 n) (K152 n)
def K152:Nat->Word->Str->(List Redir)->Option (Str×(List Redir))
 | 0=>λ_ _ _=>none
 | n+1=>F152 (K66 n) (K152 n)
end
def F17(a:List Cmd):Option (Str×Int):=
 (F13 a).bind λb=>
 (bif !b then
  some ([],1)
 else
  (F35 (K66 BIG) a [] ([]:List Redir)).bind λ(d,e)=>
  (F36 d e).bind λf=>
  some (f,0))
def S17:Spec:=mkS 17 F17 (λa=>([.pv (.slice (List.map Cmd.pv a))],[])) (λa (b,c)=>.ret [as_ b,ai c] [])
def F7:Option Bool:=
 (F8 [105,102,40,126,32,36,120,32,97,41,123,101,99,104,111,32,39,98,32,99,39,125]).bind λ(a,d,e)=>
 (Q0e (!((!decide (e=0)||!decide (d=0))||!decide ((a.length:Int)=1))) (lidx a 0)).bind λb=>
 (Q0e (!((((!decide (e=0)||!decide (d=0))||!decide ((a.length:Int)=1))||!decide (b.kind_=8))||!decide ((b.kids_.length:Int)=2))) (K15 BIG a)).bind λf=>
 (Q0e (!(((((!decide (e=0)||!decide (d=0))||!decide ((a.length:Int)=1))||!decide (b.kind_=8))||!decide ((b.kids_.length:Int)=2))||!decide (f=9))) (F13 a)).bind λg=>
 (bif ((((((!decide (e=0)||!decide (d=0))||!decide ((a.length:Int)=1))||!decide (b.kind_=8))||!decide ((b.kids_.length:Int)=2))||!decide (f=9))||!g)then
  some false
 else
  (F8 [97,32,124,32,124,32,98]).bind λ(n,i,j)=>
  (bif (!decide (i=4)||!decide (j=47))then
   some false
  else
   (F17 a).bind λ(l,m)=>
   some (decide (l=[105,102,40,10,126,32,36,120,32,97,10,41,32,123,10,101,99,104,111,32,39,98,32,99,39,10,125,10])&&decide (m=0))))
def S7(F:Option (Bool)):Spec:=mkS 7 (α:=Unit) (ρ:=Bool) (λ(_:Unit)=>F) (λ(_:Unit)=>([],[])) (λ(_:Unit) a=>.ret [ab a] [])
theorem S7_F(F:Option (Bool)):(S7 F).F ()=F:=rfl
def J2i(e f:Cmd)(g:Y9)(i:(Int)->Option Bool)(j:Int)(l:Int->Option Bool):Int->Option Bool:=λd=>
 (bif decide (d<(e.redirs_.length:Int))then
  (lidx e.redirs_ d).bind λa=>
  (lidx f.redirs_ d).bind λb=>
  (Q0e (!(((!decide (a.kind_=b.kind_)||!decide (a.fd_=b.fd_))||!decide (a.from_=b.from_))||!(a.raw_==b.raw_))) (g [a.word_] [b.word_])).bind λm=>
  (bif ((((!decide (a.kind_=b.kind_)||!decide (a.fd_=b.fd_))||!decide (a.from_=b.from_))||!(a.raw_==b.raw_))||!m)then
   some false
  else
   l (IntKind.wrap .i64 (d+1)))
 else
  i (IntKind.wrap .i64 (j+1)))
def Z5y(e i:List Cmd)(f:Y9)(j:Y10)(l:Int->Option Bool):Int->Option Bool:=λd=>
 (bif decide (d<(e.length:Int))then
  (lidx e d).bind λa=>
  (lidx i d).bind λb=>
  (Q0e (!(!decide (a.kind_=b.kind_)||!decide (a.name_=b.name_))) (f a.words_ b.words_)).bind λg=>
  (Q0e (!((!decide (a.kind_=b.kind_)||!decide (a.name_=b.name_))||!g)) (j a.kids_ b.kids_)).bind λm=>
  (bif ((((!decide (a.kind_=b.kind_)||!decide (a.name_=b.name_))||!g)||!m)||!decide ((a.redirs_.length:Int)=(b.redirs_.length:Int)))then
   some false
  else
   iter (J2i a b f l d) BIG 0)
 else
  some true)
def F10(d:Y10)(e:Y9)(a b:List Cmd):Option Bool:=
 (bif !decide ((a.length:Int)=(b.length:Int))then
  some false
 else
  iter (Z5y a b e d) BIG 0)
def S10(F:(List Cmd)->(List Cmd)->Option (Bool)):Spec:=mkS 10 (un2 F) (λ(a,b)=>([.pv (.slice (List.map Cmd.pv a)),.pv (.slice (List.map Cmd.pv b))],[])) (λ(a,b) c=>.ret [ab c] [])
def Z5w(e g:List Word)(i:Y9)(j:Y10)(l:Int->Option Bool):Int->Option Bool:=λd=>
 (bif decide (d<(e.length:Int))then
  (lidx e d).bind λa=>
  (lidx g d).bind λb=>
  (Q0e (!((!decide (a.kind_=b.kind_)||!decide (a.text_=b.text_))||!decide (a.quoted_=b.quoted_))) (i a.words_ b.words_)).bind λf=>
  (Q0e (!(((!decide (a.kind_=b.kind_)||!decide (a.text_=b.text_))||!decide (a.quoted_=b.quoted_))||!f)) (j a.cmd_ b.cmd_)).bind λm=>
  (bif ((((!decide (a.kind_=b.kind_)||!decide (a.text_=b.text_))||!decide (a.quoted_=b.quoted_))||!f)||!m)then
   some false
  else
   l (IntKind.wrap .i64 (d+1)))
 else
  some true)
def F26(d:Y10)(e:Y9)(a b:List Word):Option Bool:=
 (bif !decide ((a.length:Int)=(b.length:Int))then
  some false
 else
  iter (Z5w a b e d) BIG 0)
def S26(F:(List Word)->(List Word)->Option (Bool)):Spec:=mkS 26 (un2 F) (λ(a,b)=>([.pv (.slice (List.map Word.pv a)),.pv (.slice (List.map Word.pv b))],[])) (λ(a,b) c=>.ret [ab c] [])
mutual
def K10:Nat->(List Cmd)->(List Cmd)->Option (Bool)
 | 0=>λ_ _=>none
 | n+1=>F10 (K10 n) (K26 n)
def K26:Nat->(List Word)->(List Word)->Option (Bool)
 | 0=>λ_ _=>none
 | n+1=>F26 (K10 n) (K26 n)
end
def F6(b:List Cmd):Option Bool:=
 (F12 b).bind λd=>
 (Q0e d (F14 b)).bind λf=>
 (bif (!d||!f)then
  (F7).bind λg=>
  some g
 else
  (F17 b).bind λ(i,j)=>
  (bif !decide (j=0)then
   some false
  else
   (F8 i).bind λ(l,n,a)=>
   (Q0e (!(decide (a=4))&&decide (a=0)) (K10 BIG b l)).bind λe=>
   (Q0e (decide (a=4)||(decide (a=0)&&e)) (F7)).bind λm=>
   some ((decide (a=4)||(decide (a=0)&&e))&&m)))
def S6:=SQ0 6 F6
def Z1e(b:Str)(d:Int)(e:Str)(f:Int)(g:(Int)->Option (Str×Int×Int))(i:Int->Option (Str×Int×Int)):Int->Option (Str×Int×Int):=λa=>
 (Q0e (decide (a<(b.length:Int))) (sidx b a)).bind λj=>
 (bif (decide (a<(b.length:Int))&&!decide (j=10))then
   i (IntKind.wrap .i64 (a+1))
 else
  (Q0n b d a).bind λl=>
  (bif decide (l=e)then
    (Q0n b f d).bind λm=>
    some (m,imin (IntKind.wrap .i64 (a+1)) (b.length:Int),0)
  else
   g (IntKind.wrap .i64 (a+1))))
def Q2i(b:Str)(d:Str)(e:Int)(f:Int->Option (Str×Int×Int)):Int->Option (Str×Int×Int):=λa=>
 (bif decide (a<(b.length:Int))then
   iter (Z1e b a d e f) BIG a
 else
  some ([],0,3))
def F54(b:Str)(a:Int)(d:Str):Option (Str×Int×Int):=
 (bif (decide (a<0)||decide ((b.length:Int)<a))then
   some ([],0,1)
 else
  iter (Q2i b d a) BIG a)
end Go.Abs.U48
