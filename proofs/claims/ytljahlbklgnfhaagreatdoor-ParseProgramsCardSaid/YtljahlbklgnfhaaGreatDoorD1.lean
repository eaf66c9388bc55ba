import Derived.Test.YtljahlbklgnfhaaGreatDoorLB
set_option linter.unusedVariables false
set_option linter.defProp false
namespace Go.Abs.U48
open Go.RowKit Go.Proofs
abbrev Y0:=Bool->Str->(List Token)->(List Str)->Int->Option (Int ⊕ (Cmd×Int))
abbrev Y1:=Str->(List Token)->(List Str)->Int->Option (Int ⊕ (Word×Int))
abbrev Y2:=Str->(List Token)->(List Str)->Int->Int->Int->Option (Word×Int×Int×Int)
abbrev Y3:=Str->(List Token)->(List Str)->Int->Int->Int->Option (Cmd×Int×Int×Int)
abbrev Y4:=(List Word)->(List Word)->Option (Bool)
abbrev Y5:=Cmd->Str->(List Redir)->Option (Str×(List Redir))
abbrev Y6:=(List Cmd)->(List Cmd)->Option (Bool)
abbrev Y7:=(List Cmd)->Option (Int)
abbrev Y8:=Cmd->Option (Bool)
abbrev Y9:=(List Word)->Option (Int)
abbrev Y10:=Word->Option (Int)
abbrev Y11:=Cmd->Option (Int)
abbrev V0(a:Str)(b:Int)(d e:Nat)(f g i:Int):AObj:=AObj.var [.pv (.str a),.pv (.int .i64 b),.vec 1 d,.vec 2 e,.pv (.int .i64 f),.pv (.int .i64 g),.pv (.int .i64 i)]
abbrev V1(x:Token):AObj:=AObj.var [.pv (.int .i64 x.kind_),.pv (.int .i64 x.at_),.pv (.str x.text_),.pv (.str x.quoted_)]
abbrev V2(a b:Int)(d e:Str):PV:=PV.agg [.int .i64 a,.int .i64 b,.str d,.str e]
abbrev V3(a:Str)(b:Int)(d:Nat)(e f g:Int):AObj:=AObj.var [.pv (.str a),.pv (.int .i64 b),.vec 1 d,.nils,.pv (.int .i64 e),.pv (.int .i64 f),.pv (.int .i64 g)]
abbrev V4(a:Str)(b:List Token)(d:List Str)(e:Int):AObj:=AObj.var [.pv (.str a),.pv (.slice (List.map Token.pv b)),.pv (.slice (List.map PV.str d)),.pv (.int .i64 e)]
abbrev V5(a b:Int)(d:Str):AObj:=AObj.var [.pv (.int .i64 a),.pv (.int .i64 b),.pv (.str d),.nils,.nils,.nils]
abbrev V6(x:Token):PV:=PV.agg [.int .i64 x.kind_,.int .i64 x.at_,.str x.text_,.str x.quoted_]
abbrev V7(x:Cmd):PV:=PV.agg [.int .i64 x.kind_,.int .i64 x.at_,.str x.name_,.slice (List.map Word.pv x.words_),.slice (List.map Redir.pv x.redirs_),.slice (List.map Cmd.pv x.kids_)]
abbrev V8(a b:Int)(d:Str)(e:List Word)(f:List Redir)(g:List Cmd):AObj:=AObj.var [.pv (.int .i64 a),.pv (.int .i64 b),.pv (.str d),.pv (.slice (List.map Word.pv e)),.pv (.slice (List.map Redir.pv f)),.pv (.slice (List.map Cmd.pv g))]
abbrev V9(x:Cmd):AObj:=AObj.var [.pv (.int .i64 x.kind_),.pv (.int .i64 x.at_),.pv (.str x.name_),.pv (.slice (List.map Word.pv x.words_)),.pv (.slice (List.map Redir.pv x.redirs_)),.pv (.slice (List.map Cmd.pv x.kids_))]
abbrev V10(a b d e:Int)(f g:Str)(i:Bool):AObj:=AObj.var [.pv (.int .i64 a),.pv (.int .i64 b),.pv (.int .i64 d),.pv (.int .i64 e),.pv (.str f),.pv (.str g),.nils,.nils,.pv (.bool i)]
abbrev V11(a b d e:Int)(f g:Str)(i:List Word)(j:List Cmd)(k:Bool):AObj:=AObj.var [.pv (.int .i64 a),.pv (.int .i64 b),.pv (.int .i64 d),.pv (.int .i64 e),.pv (.str f),.pv (.str g),.pv (.slice (List.map Word.pv i)),.pv (.slice (List.map Cmd.pv j)),.pv (.bool k)]
abbrev V12(a b:Int)(d:Str)(e:List Cmd):AObj:=AObj.var [.pv (.int .i64 a),.pv (.int .i64 b),.pv (.str d),.nils,.nils,.pv (.slice (List.map Cmd.pv e))]
abbrev V13(a b:Int)(d:Str)(e:Nat)(f:List Cmd):AObj:=AObj.var [.pv (.int .i64 a),.pv (.int .i64 b),.pv (.str d),.nils,.vec 3 e,.pv (.slice (List.map Cmd.pv f))]
abbrev V14(x:Word):PV:=PV.agg [.int .i64 x.kind_,.str x.text_,.str x.quoted_,.slice (List.map Word.pv x.words_),.slice (List.map Cmd.pv x.cmd_)]
abbrev V15(x:Redir):PV:=PV.agg [.int .i64 x.kind_,.int .i64 x.fd_,.int .i64 x.from_,.int .i64 x.word_.kind_,.str x.word_.text_,.str x.word_.quoted_,.slice (List.map Word.pv x.word_.words_),.slice (List.map Cmd.pv x.word_.cmd_),.bool x.raw_]
abbrev V16(a b:Int)(d:Str)(e:Nat):AObj:=AObj.var [.pv (.int .i64 a),.pv (.int .i64 b),.pv (.str d),.vec 3 e,.nils,.nils]
abbrev V17(a b:Int)(d:Str)(e f:Nat):AObj:=AObj.var [.pv (.int .i64 a),.pv (.int .i64 b),.pv (.str d),.vec 3 e,.vec 4 f,.nils]
abbrev V18(a:Int)(b d:Str):AObj:=AObj.var [.pv (.int .i64 a),.pv (.str b),.pv (.str d),.nils,.nils]
abbrev V19(a:Int)(b d:Str)(e:List Word)(f:List Cmd):AObj:=AObj.var [.pv (.int .i64 a),.pv (.str b),.pv (.str d),.pv (.slice (List.map Word.pv e)),.pv (.slice (List.map Cmd.pv f))]
abbrev V20(x:Redir):AObj:=AObj.var [.pv (.int .i64 x.kind_),.pv (.int .i64 x.fd_),.pv (.int .i64 x.from_),.pv (.int .i64 x.word_.kind_),.pv (.str x.word_.text_),.pv (.str x.word_.quoted_),.pv (.slice (List.map Word.pv x.word_.words_)),.pv (.slice (List.map Cmd.pv x.word_.cmd_)),.pv (.bool x.raw_)]
abbrev V21(x:Word):AObj:=AObj.var [.pv (.int .i64 x.kind_),.pv (.str x.text_),.pv (.str x.quoted_),.pv (.slice (List.map Word.pv x.words_)),.pv (.slice (List.map Cmd.pv x.cmd_))]
abbrev V22(a:Int)(b:Nat)(d:Int)(e:Bool)(f:Nat)(g i:Int):AObj:=AObj.var [.pv (.int .i64 a),.vec 0 b,.pv (.int .i64 d),.pv (.bool e),.vec 1 f,.pv (.int .i64 g),.pv (.int .i64 i)]
abbrev V23(a b:Int)(d:Bool)(e f:Int):AObj:=AObj.var [.pv (.int .i64 a),.nils,.pv (.int .i64 b),.pv (.bool d),.nils,.pv (.int .i64 e),.pv (.int .i64 f)]
abbrev V24(a b:Str)(d:Int)(e:Bool):AObj:=AObj.var [.pv (.str a),.pv (.str b),.pv (.int .i64 d),.pv (.bool e)]
abbrev V25(x:Part):AObj:=AObj.var [.pv (.str x.text_),.pv (.str x.quoted_),.pv (.int .i64 x.to_),.pv (.bool x.ok_)]
abbrev V26(a:Int)(b:Nat)(d:Int)(e:Bool)(f:Nat)(g i:Int):AObj:=AObj.var [.pv (.int .i64 a),.vec 1 b,.pv (.int .i64 d),.pv (.bool e),.vec 2 f,.pv (.int .i64 g),.pv (.int .i64 i)]
abbrev V27(a:Str)(b:List Token)(d:List Str)(e f g:Int):AObj:=AObj.var [.pv (.str a),.pv (.slice (List.map Token.pv b)),.pv (.slice (List.map PV.str d)),.pv (.int .i64 e),.pv (.int .i64 f),.pv (.int .i64 g)]
abbrev V28(a b:Int)(d:Str)(e f:Nat):AObj:=AObj.var [.pv (.int .i64 a),.pv (.int .i64 b),.pv (.str d),.nils,.vec 1 e,.vec 4 f]
abbrev V29(a b:Int)(d:Str)(e:List Word)(f g:Nat):AObj:=AObj.var [.pv (.int .i64 a),.pv (.int .i64 b),.pv (.str d),.pv (.slice (List.map Word.pv e)),.vec 1 f,.vec 4 g]
abbrev V30(a b:Int)(d:Str)(e:List Word):AObj:=AObj.var [.pv (.int .i64 a),.pv (.int .i64 b),.pv (.str d),.pv (.slice (List.map Word.pv e)),.nils,.nils]
abbrev V31(a b:Int)(d:Str)(e f:Nat):AObj:=AObj.var [.pv (.int .i64 a),.pv (.int .i64 b),.pv (.str d),.vec 4 e,.vec 1 f,.nils]
abbrev V32(a b:Int)(d:Str)(e:Nat):AObj:=AObj.var [.pv (.int .i64 a),.pv (.int .i64 b),.pv (.str d),.nils,.vec 3 e,.nils]
abbrev V33(a b:Int)(d:Str)(e:Nat)(f:List Cmd):AObj:=AObj.var [.pv (.int .i64 a),.pv (.int .i64 b),.pv (.str d),.nils,.vec 4 e,.pv (.slice (List.map Cmd.pv f))]
abbrev vC(x:List Cmd):AV:=.pv (.slice (List.map Cmd.pv x))
abbrev vRe(x:List Redir):AV:=.pv (.slice (List.map Redir.pv x))
abbrev vTo(x:List Token):AV:=.pv (.slice (List.map Token.pv x))
abbrev vWo(x:List Word):AV:=.pv (.slice (List.map Word.pv x))
abbrev rSt(x:List Str):AObj:=.row 9 1 (List.map PV.str x) true
abbrev rTo(x:List Token):AObj:=.row 87 4 (List.map Token.pv x) true
abbrev rRe(x:List Redir):AObj:=.row 51 9 (List.map Redir.pv x) true
abbrev rWo(x:List Word):AObj:=.row 49 5 (List.map Word.pv x) true
abbrev rCm(x:List Cmd):AObj:=.row 36 6 (List.map Cmd.pv x) true
def X0b(F:Str->Option (Str)):Spec:=mkS 36 F (λb=>([.ref 0 0],[.bld b])) (λb s=>.ret [as_ s] [.gone])
def Z6s:Spec:=X0b Q3z
def J1d(F:Str->Int->Option (Int)):Spec:=mkS 40 (un2 F) (λ(s,c)=>([as_ s,.pv (.int .u8 c)],[])) (λ(s,c) n=>.ret [ai n] [])
def Q0z:Spec:=J1d Q0h
def X8j(F:(List Str)->Str->Option (Str)):Spec:=mkS 119 (un2 F) (λ(xs,a)=>([.pv (.slice (List.map PV.str xs)),as_ a],[])) (λ(xs,a) s=>.ret [as_ s] [])
def X4u:Spec:=X8j J3l
def J1b(F:Str->Int->Option (Str)):Spec:=mkS 121 (un2 F) (λ(b,c)=>([.ref 0 0,.pv (.int .u8 c)],[.bld b])) (λ(b,c) d=>.ret [.pv (.nil)] [.bld d])
def Q8u:Spec:=J1b Q1v
def Z6r(F:Str->Str->Option (Int×Str)):Spec:=mkS 123 (un2 F) (λ(b,s)=>([.ref 0 0,as_ s],[.bld b])) (λ(b,s) (n,c)=>.ret [ai n,.pv (.nil)] [.bld c])
def Q6j:Spec:=Z6r Q1k
def X0c(F:Str->Int->Option (Str)):Spec:=mkS 124 (un2 F) (λ(s,n)=>([as_ s,ai n],[])) (λ(s,n) t=>.ret [as_ t] [])
def Z1u:Spec:=X0c Q2r
def K4g(F:Str->Str->Option (Str×Str×Bool)):Spec:=mkS 161 (un2 F) (λ(s,d)=>([as_ s,as_ d],[])) (λ(s,d) (a,b,ok)=>.ret [as_ a,as_ b,ab ok] [])
def J7s:Spec:=K4g Z4k
def J1c(F:Str->Str->Option (Bool)):Spec:=mkS 169 (un2 F) (λ(s,p)=>([as_ s,as_ p],[])) (λ(s,p) ok=>.ret [ab ok] [])
def Z3u:Spec:=J1c Q5f
def X8k(F:Int->Option (Str)):Spec:=mkS 189 F (λn=>([ai n],[])) (λn s=>.ret [as_ s] [])
def X4v:Spec:=X8k Q9z
def X8l(F:Str->Option (Int×Bool)):Spec:=mkS 199 F (λs=>([as_ s],[])) (λs (n,bad)=>.ret [ai n,.pv ((bif bad then PV.ifc else PV.nil))] [])
def J5n:Spec:=X8l Z1v
def Z7y(F:Str->Str->Str->Option (Str)):Spec:=mkS 216 (un3 F) (λ(s,a,b)=>([as_ s,as_ a,as_ b],[])) (λ(s,a,b) t=>.ret [as_ t] [])
def Z1t:Spec:=Z7y Q6d
def F74(b a:Str):Option Bool:=
 (Q0e (decide ((a.length:Int)<=(b.length:Int))) (Q0m b 0 (a.length:Int))).bind λt4=>
 some (decide ((a.length:Int)<=(b.length:Int))&&decide (t4=a))
def SQ0(n:FuncId)(F:Str->Str->Option (Bool)):Spec:=mkS n (un2 F) (λ(a,b)=>([as_ a,as_ b],[])) (λ(a,b) c=>.ret [ab c] [])
def S74:=SQ0 74 F74
def F42(a b:Str):Option Bool:=
 (F74 a b).bind λd=>
 some d
def S42:=SQ0 42 F42
def Q6n(d:Str)(i:(Int×(List Str)×(List Int))->Option ((List Str)×(List Int))):(Int×(List Str)×(List Int))->Option ((List Str)×(List Int)):=λ(a,e,f)=>
 (bif decide (a<(d.length:Int))then
  (Q0m d a (d.length:Int)).bind λj=>
  (Z4k j [10]).bind λ(b,m,g)=>
  (appO 16 e [b]).bind λk=>
  (appO 8 f [(bif g then IntKind.wrap .i64 ((IntKind.wrap .i64 (a+(b.length:Int)))+1)else IntKind.wrap .i64 (a+(b.length:Int)))]).bind λl=>
  i ((bif g then IntKind.wrap .i64 ((IntKind.wrap .i64 (a+(b.length:Int)))+1)else IntKind.wrap .i64 (a+(b.length:Int))),k,l)
 else
  some (e,f))
def F117(a:Str)(b:Int):Option ((List Str)×(List Int)):=
 iter (Q6n a) BIG (b,([]:List Str),([]:List Int))
def S117:Spec:=mkS 117 (un2 F117) (λ(a,b)=>([as_ a,ai b],[])) (λ(a,b) (c,d)=>.ret [.pv (.slice (List.map PV.str c)),.pv (.slice (List.map (PV.int .i64) d))] [])
def J6d(a:List Str)(v2:Str)(b:Int->Option Int):Int->Option Int:=λi4=>
 (bif decide (i4<(a.length:Int))then
  (lidx a i4).bind λd=>
  (bif decide (v2=d)then
   some i4
  else
   b (IntKind.wrap .i64 (i4+1)))
 else
  some (-1))
def F118(a:List Str)(v2:Str):Option Int:=
 iter (J6d a v2) BIG 0
def S118:Spec:=mkS 118 (un2 F118) (λ(a,b)=>([.pv (.slice (List.map PV.str a)),as_ b],[])) (λ(a,b) c=>.ret [ai c] [])
def F72(d:Str)(b:Int)(g:Str):Option (Str×Int×Int):=
 (bif (decide (b<0)||decide ((d.length:Int)<b))then
  some ([],0,1)
 else
  (F117 d b).bind λ(e,f)=>
  (F118 e g).bind λa=>
  (bif decide (a<0)then
   some ([],0,3)
  else
   (bif decide (0<a)then
    (Z5u e 0 a).bind λi=>
    (J3l i [10]).bind λj=>
    (catO j [10]).bind λk=>
    (lidx f a).bind λl=>
    some (k,l,0)
   else
    (lidx f a).bind λm=>
    some ([],m,0))))
def SQ1(n:FuncId)(F:Str->Int->Str->Option (Str×Int×Int)):Spec:=mkS n (un3 F) (λ(a,b,c)=>([as_ a,ai b,as_ c],[])) (λ(a,b,c) (d,e,f)=>.ret [as_ d,ai e,ai f] [])
def S72:=SQ1 72 F72
def Z2v(a b:Int)(d:Str)(e f g i:Int)(j:List Token)(k:List Str):Option (Bool×Int×Int):=
 some (false,a,b)
def J3j:Spec:=mkS 73 (un9 Z2v) (λ(a,b,c,d,e,f,g,h,i)=>([.ref 0 0,ai a,ai b],[V0 c d h.length i.length e f g,rTo h,rSt i])) (λ(a,b,c,d,e,f,g,h,i) (j,k,l)=>.ret [ab j] [V0 c d h.length i.length e k l,rTo h,rSt i])
def Q8b(b:Token)(f:Str)(g i d e:Int)(a:List Token)(j:List Str):Option (Bool×Int×Int×(List Token)):=
 (bif decide (1024<=(a.length:Int))then
  (Z2v b.at_ 4 f g i d e a j).bind λ(k,l,m)=>
  some (k,l,m,a)
 else
  (appO 48 a [b]).bind λn=>
  some (true,d,e,n))
def X0d:Spec:=mkS 71 (un8 Q8b) (λ(a,b,c,d,e,f,g,h)=>([.ref 0 0,.pv (PV.agg [.int .i64 a.kind_,.int .i64 a.at_,.str a.text_,.str a.quoted_])],[V0 b c g.length h.length d e f,rTo g,rSt h])) (λ(a,b,c,d,e,f,g,h) (i,j,k,l)=>.ret [ab i] [V0 b c l.length h.length d j k,rTo l,rSt h])
def Z4l(a:Str)(b d e f:Int)(g:List Token)(i:List Str):Option Str:=
 (Q0m a b (a.length:Int)).bind λt9=>
 some t9
def J3k:Spec:=mkS 39 (un7 Z4l) (λ(a,b,c,d,e,f,g)=>([.ref 0 0],[V0 a b f.length g.length c d e,rTo f,rSt g])) (λ(a,b,c,d,e,f,g) h=>.ret [as_ h] [V0 a b f.length g.length c d e,rTo f,rSt g])
def Q3m(f:Str)(g i j:Int)(k:List Token)(l:List Str)(d:Int->Option Int):Int->Option Int:=λa=>
 (Z4l f a g i j k l).bind λb=>
 (F42 b [32]).bind λe=>
 (Q0e (!e) (F42 b [9])).bind λm=>
 (bif (e||m)then
  d (IntKind.wrap .i64 (a+1))
 else
  (F42 b [92,10]).bind λn=>
  (bif n then
   d (IntKind.wrap .i64 (a+2))
  else
   some a))
def J5w(a:Str)(b d e f:Int)(g:List Token)(i:List Str):Option Int:=
 iter (Q3m a d e f g i) BIG b
def X8p:Spec:=mkS 38 (un7 J5w) (λ(a,b,c,d,e,f,g)=>([.ref 0 0],[V0 a b f.length g.length c d e,rTo f,rSt g])) (λ(a,b,c,d,e,f,g) h=>.ret [] [V0 a h f.length g.length c d e,rTo f,rSt g])
def J1i(b:List Str)(f:Str)(k g i:Int)(d:List Token)(l:(Int×Int)->Option (Bool×Bool×Int×Int×Int×(List Token))):(Int×Int)->Option (Bool×Bool×Int×Int×Int×(List Token)):=λ(e,a)=>
 (bif decide (e<(b.length:Int))then
  (lidx b e).bind λm=>
  (F72 f a m).bind λ(r,n,j)=>
  (bif !decide (j=0)then
   (Z2v a j f a k g i d b).bind λ(o,p,q)=>
   some (false,o,a,p,q,d)
  else
   l (IntKind.wrap .i64 (e+1),n))
 else
  some (true,true,a,g,i,d))
def J5v(b:Str)(a d j k:Int)(l:List Token)(e:List Str):Option (Bool×Bool×Int×Int×Int×(List Token)):=
 (Q8b (Token.mk 3 a [10] []) b a d j k l e).bind λ(m,f,g,i)=>
 (bif !m then
  some (false,false,a,f,g,i)
 else
  iter (J1i e b d f g i) BIG (0,IntKind.wrap .i64 (a+1)))
def K4i:Spec:=mkS 41 (un7 J5v) (λ(a,b,c,d,e,f,g)=>([.ref 0 0],[V0 a b f.length g.length c d e,rTo f,rSt g])) (λ(a,b,c,d,e,f,g) (h,i,j,k,l,m)=>.ret [ab i] (bif h then[V3 a j m.length c k l,rTo m,rSt g]else[V0 a j m.length g.length c k l,rTo m,rSt g]))
def Z9l(d:Str)(e f g i:Int)(j:List Token)(k:List Str):Option Bool:=
 (Z4l d e f g i j k).bind λa=>
 (Q0e (!decide (a=[])) (sidx a 0)).bind λl=>
 (Q0e (!decide (a=[])) (Q0h [32,9,10,59,38,124,40,41,123,125,60,62,61,94,96,36,39] l)).bind λb=>
 (Q0e (!decide (a=[])&&decide (b<0)) (F42 a [92,10])).bind λm=>
 some ((!decide (a=[])&&decide (b<0))&&!m)
def SQ2(n:FuncId)(F:Str->Int->Int->Int->Int->(List Token)->(List Str)->Option (Bool)):Spec:=mkS n (un7 F) (λ(a,b,c,d,e,f,g)=>([.ref 0 0],[V0 a b f.length g.length c d e,rTo f,rSt g])) (λ(a,b,c,d,e,f,g) h=>.ret [ab h] [V0 a b f.length g.length c d e,rTo f,rSt g])
def X4x:=SQ2 120 Z9l
def Q2o(d:Str)(g e f:Int)(i:List Token)(j:List Str)(l:Int)(m:(Int×Str)->Option (Str×Bool×Int×Int×Int)):(Int×Str)->Option (Str×Bool×Int×Int×Int):=λ(a,n)=>
 (Z4l d a g e f i j).bind λo=>
 (Q0h o 39).bind λb=>
 (bif decide (b<0)then
  (Z2v l 48 d a g e f i j).bind λ(p,q,r)=>
  some ([],p,a,q,r)
 else
  (Q0m d a (IntKind.wrap .i64 (a+b))).bind λs=>
  (Q1k n s).bind λ(y,k)=>
  (Z4l d (IntKind.wrap .i64 (a+(IntKind.wrap .i64 (b+1)))) g e f i j).bind λt=>
  (F42 t [39]).bind λu=>
  (bif !u then
   (Q3z k).bind λw=>
   some (w,true,(IntKind.wrap .i64 (a+(IntKind.wrap .i64 (b+1)))),e,f)
  else
   (Q1v k 39).bind λx=>
   m (IntKind.wrap .i64 ((IntKind.wrap .i64 (a+(IntKind.wrap .i64 (b+1))))+1),x)))
def Z7p(b:Str)(a d e f:Int)(g:List Token)(i:List Str):Option (Str×Bool×Int×Int×Int):=
 iter (Q2o b d e f g i a) BIG (IntKind.wrap .i64 (a+1),[])
def X4w:Spec:=mkS 122 (un7 Z7p) (λ(a,b,c,d,e,f,g)=>([.ref 0 0],[V0 a b f.length g.length c d e,rTo f,rSt g])) (λ(a,b,c,d,e,f,g) (h,i,j,k,l)=>.ret [as_ h,ab i] [V0 a j f.length g.length c k l,rTo f,rSt g])
def Q4q(e:Str)(f:Int)(g:List Token)(i:List Str)(l:(Int×Int×Int×Str×Str)->Option (Str×Str×Bool×Int×Int×Int)):(Int×Int×Int×Str×Str)->Option (Str×Str×Bool×Int×Int×Int):=λ(a,b,d,j,k)=>
 (Z9l e a f b d g i).bind λq=>
 (bif q then
  (sidx e a).bind λr=>
  (Q1v j r).bind λs=>
  (Q1v k 48).bind λt=>
  l (IntKind.wrap .i64 (a+1),b,d,s,t)
 else
  (Z4l e a f b d g i).bind λu=>
  (F42 u [39]).bind λw=>
  (bif w then
   (Z7p e a f b d g i).bind λ(m,x,n,o,p)=>
   (bif !x then
    some ([],[],false,n,o,p)
   else
    (Q1k j m).bind λ(E,y)=>
    (Q2r [49] (m.length:Int)).bind λz=>
    (Q1k k z).bind λ(F,A)=>
    l (n,o,p,y,A))
  else
   (Q3z j).bind λC=>
   (Q3z k).bind λD=>
   some (C,D,true,a,b,d)))
def J1h(a:Str)(b d e f:Int)(g:List Token)(i:List Str):Option (Str×Str×Bool×Int×Int×Int):=
 iter (Q4q a d g i) BIG (b,e,f,[],[])
def X8n:Spec:=mkS 75 (un7 J1h) (λ(a,b,c,d,e,f,g)=>([.ref 0 0],[V0 a b f.length g.length c d e,rTo f,rSt g])) (λ(a,b,c,d,e,f,g) (h,i,j,k,l,m)=>.ret [as_ h,as_ i,ab j] [V0 a k f.length g.length c l m,rTo f,rSt g])
def J5u(e:Str)(k f l m:Int)(a:List Token)(b:List Str):Option (Bool×Int×Int×Int×(List Token)×(List Str)):=
 (J5w e (IntKind.wrap .i64 (k+2)) f l m a b).bind λg=>
 (J1h e g f l m a b).bind λ(n,p,q,d,i,j)=>
 (bif !q then
  some (false,d,i,j,a,b)
 else
  (bif decide (d=g)then
   (Z2v g 47 e d f i j a b).bind λ(r,s,t)=>
   some (r,d,s,t,a,b)
  else
   (appO 16 b [n]).bind λo=>
   (Q8b (Token.mk 4 k n p) e d f i j a o).bind λ(u,w,x,y)=>
   some (u,d,w,x,y,o)))
def K4h:Spec:=mkS 43 (un7 J5u) (λ(a,b,c,d,e,f,g)=>([.ref 0 0],[V0 a b f.length g.length c d e,rTo f,rSt g])) (λ(a,b,c,d,e,f,g) (h,i,j,k,l,m)=>.ret [ab h] [V0 a i l.length m.length c j k,rTo l,rSt m])
def F76(f:Str)(b d g i:Int)(a:List Token)(j:List Str):Option Bool:=
 (Q0e (decide (0<(a.length:Int))) (lidx a (IntKind.wrap .i64 ((a.length:Int)-1)))).bind λe=>
 some ((decide (0<(a.length:Int))&&decide (e.kind_=1))&&decide (d=b))
def S76:=SQ2 76 F76
def F166(b:Str):Option Bool:=
 (Z1v b).bind λ(a,d)=>
 (Q0e ((!d&&decide (0<=a))&&decide (a<64)) (Q9z a)).bind λe=>
 some (((!d&&decide (0<=a))&&decide (a<64))&&decide (e=b))
def SQ3(n:FuncId)(F:Str->Option (Bool)):Spec:=mkS n F (λa=>([as_ a],[])) (λa b=>.ret [ab b] [])
def S166:=SQ3 166 F166
def F125(d:Str)(e:Bool):Option Int:=
 (Q0h d 93).bind λa=>
 (bif decide (a<0)then
  some 0
 else
  (Q0m d 1 a).bind λi=>
  (Z4k i [61]).bind λ(j,b,f)=>
  (F166 j).bind λg=>
  (Q0e (((g&&f)&&e)&&!decide (b=[])) (F166 b)).bind λk=>
  (bif (!g||(f&&(!e||(!decide (b=[])&&!k))))then
   some 0
  else
   some (IntKind.wrap .i64 (a+1))))
def S125:Spec:=mkS 125 (un2 F125) (λ(a,b)=>([as_ a,ab b],[])) (λ(a,b) c=>.ret [ai c] [])
def J3n(b:Str)(d e g:Int)(j:Str)(k:Int)(l:List Token)(m:List Str)(n:Int->Option (Str×Bool×Int×Int)):Int->Option (Str×Bool×Int×Int):=λf=>
 (bif decide (f<([[62,62],[62],[60],[124]].length:Int))then
  (lidx [[62,62],[62],[60],[124]] f).bind λa=>
  (F42 b a).bind λo=>
  (bif !o then
   n (IntKind.wrap .i64 (f+1))
  else
   (Q0m b (a.length:Int) (b.length:Int)).bind λt51=>
   (F42 t51 [91]).bind λp=>
   (bif !p then
    some (a,true,d,e)
   else
    (F125 t51 (!decide (a=[124]))).bind λi=>
    (bif decide (i=0)then
     (Z2v (IntKind.wrap .i64 (g+(a.length:Int))) 47 j g k d e l m).bind λ(q,r,s)=>
     some ([],q,r,s)
    else
     (Q0m b 0 (IntKind.wrap .i64 ((a.length:Int)+i))).bind λt=>
     some (t,true,d,e))))
 else
  some ([],true,d,e))
def X5j(a:Str)(b d g:Int)(i:Str)(j:Int)(k:List Token)(l:List Str)(m:Int->Option (Str×Bool×Int×Int)):Int->Option (Str×Bool×Int×Int):=λe=>
 (bif decide (e<([[38,38],[124,124],[36,35]].length:Int))then
  (lidx [[38,38],[124,124],[36,35]] e).bind λf=>
  (F42 a f).bind λn=>
  (bif n then
   some (f,true,b,d)
  else
   m (IntKind.wrap .i64 (e+1)))
 else
  (bif decide (a=[])then
   some ([],true,b,d)
  else
   (sidx a 0).bind λo=>
   (Q0h [59,38,40,41,123,125,61,94,96,36,33,64] o).bind λp=>
   (bif decide (0<=p)then
    (Q0m a 0 1).bind λq=>
    some (q,true,b,d)
   else
    iter (J3n a b d g i j k l) BIG 0)))
def F77(a:Str)(b d e f:Int)(g:List Token)(i:List Str):Option (Str×Bool×Int×Int):=
 (Z4l a b d e f g i).bind λj=>
 iter (X5j j e f b a d g i) BIG 0
def S77:Spec:=mkS 77 (un7 F77) (λ(a,b,c,d,e,f,g)=>([.ref 0 0],[V0 a b f.length g.length c d e,rTo f,rSt g])) (λ(a,b,c,d,e,f,g) (h,i,j,k)=>.ret [as_ h,ab i] [V0 a b f.length g.length c j k,rTo f,rSt g])
def F78(a:Token)(n:Bool)(d:Str)(e f i j:Int)(k:List Token)(g:List Str):Option (Bool×Int×Int×(List Token)):=
 (Q0e (!(decide (a.kind_=1))&&(decide (a.kind_=2)&&!decide (a.text_=[]))) (sidx a.text_ 0)).bind λo=>
 (Q0e (!(decide (a.kind_=1))&&(decide (a.kind_=2)&&!decide (a.text_=[]))) (Q0h [36,96] o)).bind λp=>
 (bif (n&&(decide (a.kind_=1)||((decide (a.kind_=2)&&!decide (a.text_=[]))&&decide (0<=p))))then
  (Q8b (Token.mk 2 a.at_ [94] []) d e f i j k g).bind λ(q,l,b,m)=>
  (bif !q then
   some (false,l,b,m)
  else
   (Q8b a d e f l b m g).bind λ(r,s,t,u)=>
   some (r,s,t,u))
 else
  (Q8b a d e f i j k g).bind λ(w,b,x,y)=>
  some (w,b,x,y))
def S78:Spec:=mkS 78 (un9 F78) (λ(a,b,c,d,e,f,g,h,i)=>([.ref 0 0,.pv (PV.agg [.int .i64 a.kind_,.int .i64 a.at_,.str a.text_,.str a.quoted_]),ab b],[V0 c d h.length i.length e f g,rTo h,rSt i])) (λ(a,b,c,d,e,f,g,h,i) (j,k,l,m)=>.ret [ab j] [V0 c d m.length i.length e k l,rTo m,rSt i])
def F126(a:Int):Option Bool:=
 some (((((decide (97<=a)&&decide (a<=122))||(decide (65<=a)&&decide (a<=90)))||(decide (48<=a)&&decide (a<=57)))||decide (a=95))||decide (a=42))
def SQ4(n:FuncId)(F:Int->Option (Bool)):Spec:=mkS n F (λa=>([.pv (.int .u8 a)],[])) (λa b=>.ret [ab b] [])
def S126:=SQ4 126 F126
def Z6y(b:Str)(d f g i:Int)(e:List Token)(j:List Str)(k:Int->Option (Bool×Int×Int×Int×(List Token))):Int->Option (Bool×Int×Int×Int×(List Token)):=λa=>
 (Q0e (decide (a<(b.length:Int))) (sidx b a)).bind λl=>
 (Q0e (decide (a<(b.length:Int))) (F126 l)).bind λm=>
 (bif (decide (a<(b.length:Int))&&m)then
  k (IntKind.wrap .i64 (a+1))
 else
  (bif decide (a=d)then
   (Z2v d 47 b a f g i e j).bind λ(n,o,p)=>
   some (n,a,o,p,e)
  else
   (Q0m b d a).bind λt31=>
   (Q2r [48] (t31.length:Int)).bind λq=>
   (Q8b (Token.mk 1 d t31 q) b a f g i e j).bind λ(r,s,t,u)=>
   some (r,a,s,t,u)))
def F79(b:Str)(a d e f:Int)(g:List Token)(i:List Str):Option (Bool×Int×Int×Int×(List Token)):=
 iter (Z6y b a d e f g i) BIG a
def SQ5(n:FuncId)(F:Str->Int->Int->Int->Int->(List Token)->(List Str)->Option (Bool×Int×Int×Int×(List Token))):Spec:=mkS n (un7 F) (λ(a,b,c,d,e,f,g)=>([.ref 0 0],[V0 a b f.length g.length c d e,rTo f,rSt g])) (λ(a,b,c,d,e,f,g) (h,i,j,k,l)=>.ret [ab h] [V0 a i l.length g.length c j k,rTo l,rSt g])
def S79:=SQ5 79 F79
def F44(e:Str)(a f o p:Int)(d:List Token)(g:List Str):Option (Bool×Int×Int×Int×(List Token)):=
 (F76 e a f o p d g).bind λq=>
 (F77 e a f o p d g).bind λ(b,t,i,j)=>
 (bif !t then
  some (false,a,i,j,d)
 else
  (bif !decide (b=[])then
   (F78 (Token.mk 2 a b []) q e (IntKind.wrap .i64 (a+(b.length:Int))) f i j d g).bind λ(u,k,l,m)=>
   (bif !u then
    some (false,(IntKind.wrap .i64 (a+(b.length:Int))),k,l,m)
   else
    (bif (decide (b=[36])||decide (b=[36,35]))then
     (F79 e (IntKind.wrap .i64 (a+(b.length:Int))) f k l m g).bind λ(w,x,y,z,A)=>
     some (w,x,y,z,A)
    else
     some (true,(IntKind.wrap .i64 (a+(b.length:Int))),k,l,m)))
  else
   (J1h e a f i j d g).bind λ(C,D,E,n,r,s)=>
   (bif E then
    (F78 (Token.mk 1 a C D) q e n f r s d g).bind λ(F,H,I,J)=>
    some (F,n,H,I,J)
   else
    some (false,n,r,s,d))))
def S44:=SQ5 44 F44
def Z4c(i:Str)(j:(Int×Int×Int×Int×(List Token)×(List Str))->Option ((List Token)×Int×Int)):(Int×Int×Int×Int×(List Token)×(List Str))->Option ((List Token)×Int×Int):=λ(a,E,e,d,f,b)=>
 (bif decide (d=0)then
  (J5w i a a e d f b).bind λk=>
  (Z4l i k a e d f b).bind λg=>
  (bif decide (g=[])then
   (bif decide (0<(b.length:Int))then
    some ([],(i.length:Int),3)
   else
    some (f,0,0))
  else
   (sidx g 0).bind λl=>
   (bif decide (l=35)then
    (Q0h g 10).bind λm=>
    (bif decide (0<=m)then
     j (IntKind.wrap .i64 ((IntKind.wrap .i64 (k+(g.length:Int)))+(IntKind.wrap .i64 (m-(g.length:Int)))),a,e,d,f,b)
    else
     j (IntKind.wrap .i64 (k+(g.length:Int)),a,e,d,f,b))
   else
    (bif decide (l=10)then
     (J5v i k a e d f b).bind λ(r,F,n,o,p,q)=>
     (bif r then
      j (n,a,o,p,q,([]:List Str))
     else
      j (n,a,o,p,q,b))
    else
     (F42 g [60,60]).bind λs=>
     (bif s then
      (J5u i k a e d f b).bind λ(H,t,u,w,x,y)=>
      j (t,a,u,w,x,y)
     else
      (F44 i k a e d f b).bind λ(I,z,A,C,D)=>
      j (z,a,A,C,D,b)))))
 else
  some ([],e,d))
def F19(a:Str):Option ((List Token)×Int×Int):=
 (bif decide (65536<(a.length:Int))then
  some ([],0,4)
 else
  iter (Z4c a) BIG (0,0,0,0,([]:List Token),([]:List Str)))
def SQ6(n:FuncId)(F:Str->Option ((List Token)×Int×Int)):Spec:=mkS n F (λa=>([as_ a],[])) (λa (b,c,d)=>.ret [.pv (.slice (List.map Token.pv b)),ai c,ai d] [])
def S19:=SQ6 19 F19
def Z3z(e:List Int)(f:List Token)(g:Str)(i:(Int×(List Str)×(List Int))->Option (List Str))(j:Int)(k:(Int×Int×(List Str))->Option (List Str)):(Int×Int×(List Str))->Option (List Str):=λ(l,a,b)=>
 (bif decide (a<(e.length:Int))then
  (lidx e a).bind λd=>
  (lidx f d).bind λm=>
  (F72 g l m.text_).bind λ(n,o,p)=>
  (lidx b d).bind λq=>
  k (o,IntKind.wrap .i64 (a+1),List.set b (Int.toNat d) n)
 else
  i (IntKind.wrap .i64 (j+1),b,([]:List Int)))
def Q8y(d:List Token)(i:Str)(e:(Int×(List Str)×(List Int))->Option (List Str)):(Int×(List Str)×(List Int))->Option (List Str):=λ(a,b,f)=>
 (bif decide (a<(d.length:Int))then
  (lidx d a).bind λg=>
  (bif decide (g.kind_=4)then
   (appO 8 f [a]).bind λj=>
   e (IntKind.wrap .i64 (a+1),b,j)
  else
   (bif decide (g.kind_=3)then
    iter (Z3z f d i e a) BIG (IntKind.wrap .i64 (g.at_+1),0,b)
   else
    e (IntKind.wrap .i64 (a+1),b,f)))
 else
  some b)
def F46(b:Str)(a:List Token):Option (List Str):=
 (mkO 16 (a.length:Int)).bind λd=>
 iter (Q8y a b) BIG (0,List.replicate (Int.toNat (a.length:Int)) ([]:Str),([]:List Int))
def SQ7(n:FuncId)(F:Str->(List Token)->Option ((List Str))):Spec:=mkS n (un2 F) (λ(a,b)=>([as_ a,.pv (.slice (List.map Token.pv b))],[])) (λ(a,b) c=>.ret [.pv (.slice (List.map PV.str c))] [])
def S46:=SQ7 46 F46
def F84(a:Int)(f:Str)(b:List Token)(g:List Str)(d:Int):Option Token:=
 (bif decide ((b.length:Int)<=IntKind.wrap .i64 (d+a))then
  some (Token.mk 0 0 [] [])
 else
  (lidx b (IntKind.wrap .i64 (d+a))).bind λe=>
  some e)
def S84:Spec:=mkS 84 (un5 F84) (λ(a,b,c,d,e)=>([.ref 0 0,ai a],[V4 b c d e])) (λ(a,b,c,d,e) f=>.ret [.pv (PV.agg [.int .i64 f.kind_,.int .i64 f.at_,.str f.text_,.str f.quoted_])] [V4 b c d e])
def F128(a:Token)(b:Str):Option Bool:=
 some (decide (a.kind_=2)&&decide (a.text_=b))
def S128:Spec:=mkS 128 (un2 F128) (λ(a,b)=>([.pv (PV.agg [.int .i64 a.kind_,.int .i64 a.at_,.str a.text_,.str a.quoted_]),as_ b],[])) (λ(a,b) c=>.ret [ab c] [])
def F127(a b:Str)(d:List Token)(e:List Str)(f:Int):Option Bool:=
 (F84 0 b d e f).bind λg=>
 (F128 g a).bind λi=>
 some i
def S127:Spec:=mkS 127 (un5 F127) (λ(a,b,c,d,e)=>([.ref 0 0,as_ a],[V4 b c d e])) (λ(a,b,c,d,e) f=>.ret [ab f] [V4 b c d e])
def Z6x(b:Str)(d:List Token)(e:List Str)(g:Int)(f:Int->Option (Bool×Int)):Int->Option (Bool×Int):=λa=>
 (F84 0 b d e a).bind λi=>
 (bif decide (i.kind_=3)then
  f (IntKind.wrap .i64 (a+1))
 else
  (F127 [59] b d e a).bind λj=>
  (bif j then
   f (IntKind.wrap .i64 (a+1))
  else
   some (decide (g<a),a)))
def F80(b:Str)(d:List Token)(e:List Str)(a:Int):Option (Bool×Int):=
 iter (Z6x b d e a) BIG a
def S80:Spec:=mkS 80 (un4 F80) (λ(a,b,c,d)=>([.ref 0 0],[V4 a b c d])) (λ(a,b,c,d) (e,f)=>.ret [ab e] [V4 a b c f])
def F133(a:Token):Option Bool:=
 (Q0e (decide (a.kind_=1)) (Q0h a.quoted_ 49)).bind λb=>
 some (decide (a.kind_=1)&&decide (b<0))
def SQ8(n:FuncId)(F:Token->Option (Bool)):Spec:=mkS n F (λa=>([.pv (PV.agg [.int .i64 a.kind_,.int .i64 a.at_,.str a.text_,.str a.quoted_])],[])) (λa b=>.ret [ab b] [])
def S133:=SQ8 133 F133
def F134(a:Str):Option Bool:=
 (Q0e (!decide (a=[])) (Q0h a 32)).bind λb=>
 (Q0e (!decide (a=[])&&decide (b<0)) (catO [32] a)).bind λd=>
 (Q0e (!decide (a=[])&&decide (b<0)) (catO d [32])).bind λe=>
 (Q0e (!decide (a=[])&&decide (b<0)) (Q5f [32,105,102,32,110,111,116,32,119,104,105,108,101,32,102,111,114,32,105,110,32,115,119,105,116,99,104,32,99,97,115,101,32,102,110,32,126,32] e)).bind λf=>
 some ((!decide (a=[])&&decide (b<0))&&f)
def S134:=SQ3 134 F134
def F83(a:Token):Option Str:=
 (F133 a).bind λb=>
 (Q0e b (F134 a.text_)).bind λd=>
 (bif (b&&d)then
  some a.text_
 else
  some [])
def S83:Spec:=mkS 83 F83 (λa=>([.pv (PV.agg [.int .i64 a.kind_,.int .i64 a.at_,.str a.text_,.str a.quoted_])],[])) (λa b=>.ret [as_ b] [])
def F129(a:Token):Option Bool:=
 (bif decide (a.kind_=1)then
  some true
 else
  (F128 a [36]).bind λb=>
  (Q0e (!b) (F128 a [36,35])).bind λd=>
  (Q0e (!(b||d)) (F128 a [40])).bind λe=>
  (Q0e (!((b||d)||e)) (F128 a [96])).bind λf=>
  some (((b||d)||e)||f))
def S129:=SQ8 129 F129
def F130(a:Token):Option Bool:=
 (Q0e (!(decide (a.kind_=4))&&decide (a.kind_=2)) (sidx a.text_ 0)).bind λc3=>
 some (decide (a.kind_=4)||(decide (a.kind_=2)&&(decide (c3=60)||decide (c3=62))))
def S130:=SQ8 130 F130
def F81(j:Bool)(k:Str)(l:List Token)(m:List Str)(n:Int):Option Bool:=
 (F84 0 k l m n).bind λa=>
 (Q0e j (F83 a)).bind λq=>
 (bif (j&&decide (q=[99,97,115,101]))then
  (F84 1 k l m n).bind λr=>
  (F128 r [61]).bind λb=>
  (bif !b then
   some false
  else
   (F129 a).bind λd=>
   (Q0e (!d) (F130 a)).bind λf=>
   (Q0e (!(d||f)) (F128 a [33])).bind λg=>
   (Q0e (!((d||f)||g)) (F128 a [64])).bind λo=>
   (Q0e (!(((d||f)||g)||o)) (F128 a [123])).bind λs=>
   some ((((d||f)||g)||o)||s))
 else
  (F129 a).bind λe=>
  (Q0e (!e) (F130 a)).bind λb=>
  (Q0e (!(e||b)) (F128 a [33])).bind λi=>
  (Q0e (!((e||b)||i)) (F128 a [64])).bind λp=>
  (Q0e (!(((e||b)||i)||p)) (F128 a [123])).bind λt=>
  some ((((e||b)||i)||p)||t))
def S81:Spec:=mkS 81 (un5 F81) (λ(a,b,c,d,e)=>([.ref 0 0,ab a],[V4 b c d e])) (λ(a,b,c,d,e) f=>.ret [ab f] [V4 b c d e])
def F132(d e:Str)(f:List Token)(g:List Str)(a:Int):Option (Bool×Int):=
 (F127 d e f g a).bind λb=>
 some (b,(bif b then IntKind.wrap .i64 (a+1)else a))
def S132:Spec:=mkS 132 (un5 F132) (λ(a,b,c,d,e)=>([.ref 0 0,as_ a],[V4 b c d e])) (λ(a,b,c,d,e) (f,g)=>.ret [ab f] [V4 b c d g])
def Q4j(b:Str)(d:List Token)(e:List Str)(f:Int->Option Int):Int->Option Int:=λa=>
 (F84 0 b d e a).bind λg=>
 (bif decide (g.kind_=3)then
  f (IntKind.wrap .i64 (a+1))
 else
  some a)
def F168(a:Str)(b:List Token)(d:List Str)(e:Int):Option Int:=
 iter (Q4j a b d) BIG e
def S168:Spec:=mkS 168 (un4 F168) (λ(a,b,c,d)=>([.ref 0 0],[V4 a b c d])) (λ(a,b,c,d) e=>.ret [] [V4 a b c e])
def Z0u(b:Str)(d:List Token)(e:List Str)(g:Y0)(i:Bool)(j:(Int×(List Cmd))->Option (Int ⊕ (Cmd×Int))):(Int×(List Cmd))->Option (Int ⊕ (Cmd×Int)):=λ(k,a)=>
 (F132 [124] b d e k).bind λ(l,f)=>
 (bif l then
  (F168 b d e f).bind λm=>
  Q0i (g i b d e m) λ(n,o)=>
  (appO 104 a [n]).bind λp=>
  j (o,p)
 else
  (bif decide ((a.length:Int)=1)then
   (lidx a 0).bind λq=>
   some (.inr (q,f))
  else
   (lidx a 0).bind λr=>
   some (.inr (Cmd.mk 3 r.at_ [] [] [] a,f))))
def F167(f:Y0)(g:Bool)(a:Str)(b:List Token)(d:List Str)(j:Int):Option (Int ⊕ (Cmd×Int)):=
 Q0i (f g a b d j) λ(e,k)=>
 (F132 [124] a b d k).bind λ(l,i)=>
 (bif l then
  (F168 a b d i).bind λm=>
  Q0i (f g a b d m) λ(n,o)=>
  (appO 104 [e] [n]).bind λp=>
  iter (Z0u a b d f g) BIG (o,p)
 else
  (bif decide (([e].length:Int)=1)then
   some (.inr (e,i))
  else
   some (.inr (Cmd.mk 3 e.at_ [] [] [] [e],i))))
def SQ9(n:FuncId)(F:Bool->Str->(List Token)->(List Str)->Int->Option (Int ⊕ (Cmd×Int))):Spec:=mkS n (un5 F) (λ(a,b,c,d,e)=>([.ref 0 0,ab a],[V4 b c d e])) (λ(a,b,c,d,e) r=>match r with|.inl n=>.boom (syn n)|.inr (f,g)=>.ret [.pv (PV.agg [.int .i64 f.kind_,.int .i64 f.at_,.str f.name_,.slice (List.map Word.pv f.words_),.slice (List.map Redir.pv f.redirs_),.slice (List.map Cmd.pv f.kids_)])] [V4 b c d g])
def S167(a:Y0):=SQ9 167 (F167 a)
def Z3c(a:Str)(b:List Token)(d:List Str)(e:Y0)(f:Bool)(g:(Int×Int×Str×(List Word)×(List Redir)×(List Cmd))->Option (Int ⊕ (Cmd×Int)))(i:Int)(j:Cmd)(k:Str)(l:List Word)(m:List Redir)(n:List Cmd):(Int×Int)->Option (Int ⊕ (Cmd×Int)):=λ(o,p)=>
 (F168 a b d p).bind λq=>
 Q0i (F167 e f a b d q) λ(r,s)=>
 g (s,o,[],([]:List Word),([]:List Redir),[Cmd.mk i j.at_ k l m n,r])
def Q9a(a:Str)(b:List Token)(d:List Str)(l:Y0)(m:Bool)(e:Cmd)(n:(Int×Int×Str×(List Word)×(List Redir)×(List Cmd))->Option (Int ⊕ (Cmd×Int))):(Int×Int×Str×(List Word)×(List Redir)×(List Cmd))->Option (Int ⊕ (Cmd×Int)):=λ(q,f,g,i,j,k)=>
 (F132 [38,38] a b d q).bind λ(r,o)=>
 (bif r then
  Z3c a b d l m n f e g i j k (5,o)
 else
  (F132 [124,124] a b d o).bind λ(s,p)=>
  (bif s then
   Z3c a b d l m n f e g i j k (6,p)
  else
   some (.inr (Cmd.mk f e.at_ g i j k,p))))
def F131(b:Y0)(d:Bool)(e:Str)(f:List Token)(g:List Str)(i:Int):Option (Int ⊕ (Cmd×Int)):=
 Q0i (F167 b d e f g i) λ(a,j)=>
 iter (Q9a e f g b d a) BIG (j,a.kind_,a.name_,a.words_,a.redirs_,a.kids_)
def S131(a:Y0):=SQ9 131 (F131 a)
def F82(g:Y0)(i:Bool)(b:Str)(d:List Token)(e:List Str)(j:Int):Option (Int ⊕ (Cmd×Int)):=
 Q0i (F131 g i b d e j) λ(a,k)=>
 (F132 [38] b d e k).bind λ(l,f)=>
 (bif l then
  some (.inr (Cmd.mk 14 a.at_ [] [] [] [a],f))
 else
  some (.inr (a,f)))
def S82(a:Y0):=SQ9 82 (F82 a)
def F48(d:Str)(a:List Token)(f:List Str)(b:Int):Option (Int ⊕ Unit):=
 (bif decide (b<(a.length:Int))then
  (lidx a b).bind λe=>
  some (.inl e.at_)
 else
  some (.inl (d.length:Int)))
def S48:Spec:=mkS 48 (un4 F48) (λ(a,b,c,d)=>([.ref 0 0],[V4 a b c d])) (λ(a,b,c,d) r=>match r with|.inl n=>.boom (syn n)|.inr (_:Unit)=>.ret [] [V4 a b c d])
def Z9b(g:Bool)(b:Str)(d:List Token)(e:List Str)(l:Y0)(m:(Int×(List Cmd))->Option (Int ⊕ ((List Cmd)×Int))):(Int×(List Cmd))->Option (Int ⊕ ((List Cmd)×Int)):=λ(i,j)=>
 (F81 g b d e i).bind λn=>
 (bif n then
  Q0i (F82 l g b d e i) λ(k,o)=>
  (appO 104 j [k]).bind λf=>
  (F80 b d e o).bind λ(p,a)=>
  (bif (p||decide (k.kind_=14))then
   m (a,f)
  else
   (bif g then
    (F84 0 b d e a).bind λq=>
    (F83 q).bind λr=>
    (bif decide (r=[99,97,115,101])then
     Q0i (F48 b d e a) λ_=>
     some (.inr (f,a))
    else
     some (.inr (f,a)))
   else
    some (.inr (f,a))))
 else
  some (.inr (j,i)))
def F47(e:Y0)(f:Bool)(a:Str)(b:List Token)(d:List Str)(g:Int):Option (Int ⊕ ((List Cmd)×Int)):=
 (F80 a b d g).bind λ(j,i)=>
 iter (Z9b f a b d e) BIG (i,([]:List Cmd))
def S47(i:Y0):Spec:=mkS 47 (un5 (F47 i)) (λ(a,b,c,d,e)=>([.ref 0 0,ab a],[V4 b c d e])) (λ(a,b,c,d,e) r=>match r with|.inl n=>.boom (syn n)|.inr (f,g)=>.ret [.pv (.slice (List.map Cmd.pv f))] [V4 b c d g])
def J1l(b:Str)(d:Int->Option Bool):Int->Option Bool:=λi3=>
 (bif decide (i3<(b.length:Int))then
  (sidx b i3).bind λa=>
  (bif (((((decide (a<97)||decide (122<a))&&(decide (a<65)||decide (90<a)))&&(decide (a<48)||decide (57<a)))&&!decide (a=95))&&!decide (a=42))then
   some false
  else
   d (IntKind.wrap .i64 (i3+1)))
 else
  some (!decide (b=[])))
def F144(a:Str):Option Bool:=
 iter (J1l a) BIG 0
def S144:=SQ3 144 F144
def F223(j:Y0)(k:Y1)(l:Bool)(a:Str)(b:List Token)(d:List Str)(g:Int):Option (Int ⊕ (Cmd×Int)):=
 (F84 0 a b d g).bind λe=>
 Q0i (k a b d (IntKind.wrap .i64 (g+2))) λ(i,f)=>
 (F81 false a b d f).bind λm=>
 (bif m then
  Q0i (j l a b d f) λ(n,o)=>
  some (.inr (Cmd.mk 2 e.at_ e.text_ [i] [] [n],o))
 else
  some (.inr (Cmd.mk 2 e.at_ e.text_ [i] [] [],f)))
def S223(a:Y0)(b:Y1):=SQ9 223 (F223 a b)
def Z7i(a:Y0)(b:Bool)(d:Str)(e:List Token)(f:List Str)(Q8k:Int)(g:Token):Int->Option (Int ⊕ (Cmd×Int)):=λi=>
 Q0i (a b d e f i) λ(j,k)=>
 some (.inr (Cmd.mk Q8k g.at_ [] [] [] [j],k))
def F224(f:Y0)(Q8k g:Int)(i:Bool)(a:Str)(b:List Token)(d:List Str)(e:Int):Option (Int ⊕ (Cmd×Int)):=
 (F84 0 a b d e).bind λj=>
 (bif decide (Q8k=9)then
  (F168 a b d (IntKind.wrap .i64 (e+g))).bind λk=>
  Z7i f i a b d Q8k j k
 else
  Z7i f i a b d Q8k j (IntKind.wrap .i64 (e+g)))
def S224(j:Y0):Spec:=mkS 224 (un7 (F224 j)) (λ(a,b,c,d,e,f,g)=>([.ref 0 0,ai a,ai b,ab c],[V4 d e f g])) (λ(a,b,c,d,e,f,g) r=>match r with|.inl n=>.boom (syn n)|.inr (h,i)=>.ret [.pv (PV.agg [.int .i64 h.kind_,.int .i64 h.at_,.str h.name_,.slice (List.map Word.pv h.words_),.slice (List.map Redir.pv h.redirs_),.slice (List.map Cmd.pv h.kids_)])] [V4 d e f i])
def F255(i a:Str)(b:List Token)(d:List Str)(f:Int):Option (Int ⊕ (Int×Int)):=
 (F84 0 a b d f).bind λg=>
 (F132 i a b d f).bind λ(j,e)=>
 (bif !j then
  Q0i (F48 a b d e) λ_=>
  some (.inr (g.at_,e))
 else
  some (.inr (g.at_,e)))
def S255:Spec:=mkS 255 (un5 F255) (λ(a,b,c,d,e)=>([.ref 0 0,as_ a],[V4 b c d e])) (λ(a,b,c,d,e) r=>match r with|.inl n=>.boom (syn n)|.inr (f,g)=>.ret [ai f] [V4 b c d g])
def F253(e:Y0)(a:Str)(b:List Token)(d:List Str)(f:Int):Option (Int ⊕ ((List Cmd)×Int)):=
 Q0i (F255 [123] a b d f) λ(l,g)=>
 Q0i (F47 e false a b d g) λ(i,j)=>
 Q0i (F255 [125] a b d j) λ(m,k)=>
 some (.inr (i,k))
def S253(g:Y0):Spec:=mkS 253 (un4 (F253 g)) (λ(a,b,c,d)=>([.ref 0 0],[V4 a b c d])) (λ(a,b,c,d) r=>match r with|.inl n=>.boom (syn n)|.inr (e,f)=>.ret [.pv (.slice (List.map Cmd.pv e))] [V4 a b c f])
def F288(a b:Str):Option Str:=
 (F74 a b).bind λd=>
 (bif d then
  (Q0m a (b.length:Int) (a.length:Int)).bind λe=>
  some e
 else
  some a)
def SQ10(n:FuncId)(F:Str->Str->Option (Str)):Spec:=mkS n (un2 F) (λ(a,b)=>([as_ a,as_ b],[])) (λ(a,b) c=>.ret [as_ c] [])
def S288:=SQ10 288 F288
def F276(a b:Str):Option Str:=
 (F288 a b).bind λd=>
 some d
def S276:=SQ10 276 F276
def F155(a b:Str):Option Bool:=
 (Q0e (decide ((b.length:Int)<=(a.length:Int))) (Q0m a (IntKind.wrap .i64 ((a.length:Int)-(b.length:Int))) (a.length:Int))).bind λt4=>
 some (decide ((b.length:Int)<=(a.length:Int))&&decide (t4=b))
def S155:=SQ0 155 F155
def F287(a b:Str):Option Str:=
 (F155 a b).bind λd=>
 (bif d then
  (Q0m a 0 (IntKind.wrap .i64 ((a.length:Int)-(b.length:Int)))).bind λe=>
  some e
 else
  some a)
def S287:=SQ10 287 F287
def F275(a b:Str):Option Str:=
 (F287 a b).bind λd=>
 some d
def S275:=SQ10 275 F275
def F277(a:Str):Option Int:=
 (Z1v a).bind λ(b,d)=>
 some b
def S277:Spec:=mkS 277 F277 (λa=>([as_ a],[])) (λa b=>.ret [ai b] [])
def Z0p(a:Y1)(b:Str)(d:List Token)(e:List Str)(f g:Int):Int->Option (Int ⊕ (Redir×Int)):=λi=>
 Q0i (a b d e (IntKind.wrap .i64 (f+1))) λ(j,k)=>
 some (.inr (Redir.mk g i 0 j false,k))
def Q7r(a:Int)(d:Y1)(e:Str)(f:List Token)(g:List Str):(Str×Int×Int)->Option (Int ⊕ (Redir×Int)):=λ(i,j,m)=>
 (bif !decide (i=[])then
  (F276 i [91]).bind λn=>
  (F275 n [93]).bind λo=>
  (Z4k o [61]).bind λ(p,k,l)=>
  (F277 p).bind λb=>
  (bif (l&&decide (k=[]))then
   some (.inr (Redir.mk 6 b 0 (Word.mk 0 [] [] [] []) false,IntKind.wrap .i64 (a+1)))
  else
   (bif l then
    (F277 k).bind λq=>
    some (.inr (Redir.mk 5 b q (Word.mk 0 [] [] [] []) false,IntKind.wrap .i64 (a+1)))
   else
    Z0p d e f g a j b))
 else
  Z0p d e f g a j m)
def F254(g:Y1)(e:Str)(f:List Token)(b:List Str)(a:Int):Option (Int ⊕ (Redir×Int)):=
 (F84 0 e f b a).bind λd=>
 (bif decide (d.kind_=4)then
  (lidx b a).bind λi=>
  (Q2r [48] (i.length:Int)).bind λj=>
  (Q0h d.quoted_ 49).bind λk=>
  some (.inr (Redir.mk 4 0 0 (Word.mk 1 i j [] []) (decide (0<=k)),IntKind.wrap .i64 (a+1)))
 else
  (Q0m d.text_ 1 (d.text_.length:Int)).bind λt21=>
  (sidx d.text_ 0).bind λl=>
  (bif decide (l=60)then
   Q7r a g e f b (t21,1,0)
  else
   (F42 t21 [62]).bind λm=>
   (bif m then
    (Q0m t21 1 (t21.length:Int)).bind λn=>
    Q7r a g e f b (n,3,1)
   else
    Q7r a g e f b (t21,2,1))))
def S254(g:Y1):Spec:=mkS 254 (un4 (F254 g)) (λ(a,b,c,d)=>([.ref 0 0],[V4 a b c d])) (λ(a,b,c,d) r=>match r with|.inl n=>.boom (syn n)|.inr (e,f)=>.ret [.pv (PV.agg [.int .i64 e.kind_,.int .i64 e.fd_,.int .i64 e.from_,.int .i64 e.word_.kind_,.str e.word_.text_,.str e.word_.quoted_,.slice (List.map Word.pv e.word_.words_),.slice (List.map Cmd.pv e.word_.cmd_),.bool e.raw_])] [V4 a b c f])
def Z2w(b:Str)(d:List Token)(e:List Str)(g:Y1)(i:Token)(j:List Cmd)(k:(Int×(List Redir))->Option (Int ⊕ (Cmd×Int))):(Int×(List Redir))->Option (Int ⊕ (Cmd×Int)):=λ(a,f)=>
 (F84 0 b d e a).bind λl=>
 (F130 l).bind λm=>
 (bif m then
  Q0i (F254 g b d e a) λ(n,o)=>
  (appO 120 f [n]).bind λp=>
  k (o,p)
 else
  some (.inr (Cmd.mk 12 i.at_ [] [] f j,a)))
def F225(f:Y0)(g:Y1)(a:Str)(b:List Token)(d:List Str)(e:Int):Option (Int ⊕ (Cmd×Int)):=
 (F84 0 a b d e).bind λi=>
 Q0i (F253 f a b d e) λ(j,k)=>
 iter (Z2w a b d g i j) BIG (k,([]:List Redir))
def SQ11(n:FuncId)(F:Str->(List Token)->(List Str)->Int->Option (Int ⊕ (Cmd×Int))):Spec:=mkS n (un4 F) (λ(a,b,c,d)=>([.ref 0 0],[V4 a b c d])) (λ(a,b,c,d) r=>match r with|.inl n=>.boom (syn n)|.inr (e,f)=>.ret [.pv (PV.agg [.int .i64 e.kind_,.int .i64 e.at_,.str e.name_,.slice (List.map Word.pv e.words_),.slice (List.map Redir.pv e.redirs_),.slice (List.map Cmd.pv e.kids_)])] [V4 a b c f])
def S225(a:Y0)(b:Y1):=SQ11 225 (F225 a b)
def F226(e:Y0)(Q8k:Int)(g:Bool)(a:Str)(b:List Token)(d:List Str)(f:Int):Option (Int ⊕ (Cmd×Int)):=
 (F84 0 a b d f).bind λi=>
 Q0i (F255 [40] a b d (IntKind.wrap .i64 (f+1))) λ(j,k)=>
 Q0i (F47 e false a b d k) λ(l,m)=>
 Q0i (F255 [41] a b d m) λ(r,n)=>
 (F168 a b d n).bind λo=>
 Q0i (e g a b d o) λ(p,q)=>
 some (.inr (Cmd.mk Q8k i.at_ [] [] [] [Cmd.mk 12 j [] [] [] l,p],q))
def S226(i:Y0):Spec:=mkS 226 (un6 (F226 i)) (λ(a,b,c,d,e,f)=>([.ref 0 0,ai a,ab b],[V4 c d e f])) (λ(a,b,c,d,e,f) r=>match r with|.inl n=>.boom (syn n)|.inr (g,h)=>.ret [.pv (PV.agg [.int .i64 g.kind_,.int .i64 g.at_,.str g.name_,.slice (List.map Word.pv g.words_),.slice (List.map Redir.pv g.redirs_),.slice (List.map Cmd.pv g.kids_)])] [V4 c d e h])
def F256(d:Str)(e:List Token)(f:List Str)(a:Int):Option (Int ⊕ (Str×Int)):=
 (F84 0 d e f a).bind λb=>
 (F133 b).bind λg=>
 (Q0e g (F144 b.text_)).bind λi=>
 (bif (!g||!i)then
  Q0i (F48 d e f a) λ_=>
  some (.inr (b.text_,IntKind.wrap .i64 (a+1)))
 else
  some (.inr (b.text_,IntKind.wrap .i64 (a+1))))
def S256:Spec:=mkS 256 (un4 F256) (λ(a,b,c,d)=>([.ref 0 0],[V4 a b c d])) (λ(a,b,c,d) r=>match r with|.inl n=>.boom (syn n)|.inr (e,f)=>.ret [as_ e] [V4 a b c f])
def Q3n(a:Str)(b:List Token)(d:List Str)(g:Y1)(i:(Int×(List Word))->Option (Int ⊕ ((List Word)×Int))):(Int×(List Word))->Option (Int ⊕ ((List Word)×Int)):=λ(j,f)=>
 (F168 a b d j).bind λe=>
 (F84 0 a b d e).bind λk=>
 (F129 k).bind λl=>
 (bif !l then
  some (.inr (f,e))
 else
  Q0i (g a b d e) λ(m,n)=>
  (appO 88 f [m]).bind λo=>
  i (n,o))
def F257(a:Y1)(b:Str)(d:List Token)(e:List Str)(f:Int):Option (Int ⊕ ((List Word)×Int)):=
 iter (Q3n b d e a) BIG (f,([]:List Word))
def S257(g:Y1):Spec:=mkS 257 (un4 (F257 g)) (λ(a,b,c,d)=>([.ref 0 0],[V4 a b c d])) (λ(a,b,c,d) r=>match r with|.inl n=>.boom (syn n)|.inr (e,f)=>.ret [.pv (.slice (List.map Word.pv e))] [V4 a b c f])
def F227(f:Y0)(l:Y1)(g:Bool)(a:Str)(b:List Token)(d:List Str)(i:Int):Option (Int ⊕ (Cmd×Int)):=
 (F84 0 a b d i).bind λj=>
 Q0i (F255 [40] a b d (IntKind.wrap .i64 (i+1))) λ(A,m)=>
 Q0i (F256 a b d m) λ(k,e)=>
 (F84 0 a b d e).bind λn=>
 (F83 n).bind λo=>
 (bif decide (o=[105,110])then
  Q0i (F257 l a b d (IntKind.wrap .i64 (e+1))) λ(p,q)=>
  Q0i (F255 [41] a b d q) λ(C,r)=>
  (F168 a b d r).bind λs=>
  Q0i (f g a b d s) λ(t,u)=>
  some (.inr (Cmd.mk 10 j.at_ k p [] [t],u))
 else
  Q0i (F255 [41] a b d e) λ(D,w)=>
  (F168 a b d w).bind λx=>
  Q0i (f g a b d x) λ(y,z)=>
  some (.inr (Cmd.mk 10 j.at_ k [Word.mk 2 [42] [] [] []] [] [y],z)))
def S227(a:Y0)(b:Y1):=SQ9 227 (F227 a b)
def Q3t(a:Str)(b:List Token)(d:List Str)(j:Y1)(k:Y0)(g:Token)(l:(Int×(List Word))->Option (Int ⊕ (Cmd×Int))):(Int×(List Word))->Option (Int ⊕ (Cmd×Int)):=λ(e,f)=>
 (F84 0 a b d e).bind λm=>
 (F129 m).bind λn=>
 (bif n then
  Q0i (j a b d e) λ(o,p)=>
  (appO 88 f [o]).bind λq=>
  l (p,q)
 else
  (F80 a b d e).bind λ(r,i)=>
  (bif r then
   Q0i (F47 k true a b d i) λ(s,t)=>
   some (.inr (Cmd.mk 18 g.at_ [] f [] s,t))
  else
   some (.inr (Cmd.mk 18 g.at_ [] f [] [],i))))
def F258(j:Y0)(e:Y1)(a:Str)(b:List Token)(d:List Str)(k:Int):Option (Int ⊕ (Cmd×Int)):=
 (F84 0 a b d k).bind λf=>
 Q0i (e a b d (IntKind.wrap .i64 (k+1))) λ(g,i)=>
 (F84 0 a b d i).bind λm=>
 (F129 m).bind λn=>
 (bif n then
  Q0i (e a b d i) λ(o,p)=>
  (appO 88 [g] [o]).bind λq=>
  iter (Q3t a b d e j f) BIG (p,q)
 else
  (F80 a b d i).bind λ(r,l)=>
  (bif r then
   Q0i (F47 j true a b d l) λ(s,t)=>
   some (.inr (Cmd.mk 18 f.at_ [] [g] [] s,t))
  else
   some (.inr (Cmd.mk 18 f.at_ [] [g] [] [],l))))
def S258(a:Y0)(b:Y1):=SQ11 258 (F258 a b)
def Q7s(a:Str)(b:List Token)(d:List Str)(g:Y0)(i:Y1)(j:Token)(k:Word)(l:(Int×(List Cmd))->Option (Int ⊕ (Cmd×Int))):(Int×(List Cmd))->Option (Int ⊕ (Cmd×Int)):=λ(e,f)=>
 (F84 0 a b d e).bind λm=>
 (F83 m).bind λn=>
 (bif decide (n=[99,97,115,101])then
  Q0i (F258 g i a b d e) λ(o,p)=>
  (appO 104 f [o]).bind λq=>
  l (p,q)
 else
  Q0i (F255 [125] a b d e) λ(s,r)=>
  some (.inr (Cmd.mk 17 j.at_ [] [k] [] f,r)))
def F228(g:Y0)(e:Y1)(a:Str)(b:List Token)(d:List Str)(f:Int):Option (Int ⊕ (Cmd×Int)):=
 (F84 0 a b d f).bind λi=>
 Q0i (e a b d (IntKind.wrap .i64 (f+1))) λ(j,k)=>
 Q0i (F255 [123] a b d k) λ(n,l)=>
 (F80 a b d l).bind λ(o,m)=>
 iter (Q7s a b d g e i j) BIG (m,([]:List Cmd))
def S228(a:Y0)(b:Y1):=SQ11 228 (F228 a b)
def F229(l:Y0)(a:Str)(b:List Token)(d:List Str)(i:Int):Option (Int ⊕ (Cmd×Int)):=
 (F84 0 a b d i).bind λe=>
 Q0i (F256 a b d (IntKind.wrap .i64 (i+1))) λ(f,g)=>
 (F127 [123] a b d g).bind λm=>
 (bif !m then
  some (.inr (Cmd.mk 15 e.at_ f [] [] [],g))
 else
  Q0i (F253 l a b d g) λ(j,k)=>
  (bif decide ((j.length:Int)=0)then
   some (.inr (Cmd.mk 15 e.at_ f [] [] [Cmd.mk 12 0 [] [] [] []],k))
  else
   some (.inr (Cmd.mk 15 e.at_ f [] [] j,k))))
def S229(a:Y0):=SQ11 229 (F229 a)
def Q6k(b:Str)(d:List Token)(e:List Str)(g:Y1)(i:Token)(j:(Int×(List Word))->Option (Int ⊕ (Cmd×Int))):(Int×(List Word))->Option (Int ⊕ (Cmd×Int)):=λ(a,f)=>
 (F84 0 b d e a).bind λk=>
 (F129 k).bind λl=>
 (bif l then
  Q0i (g b d e a) λ(m,n)=>
  (appO 88 f [m]).bind λo=>
  j (n,o)
 else
  some (.inr (Cmd.mk 16 i.at_ [] f [] [],a)))
def F230(e:Y1)(a:Str)(b:List Token)(d:List Str)(g:Int):Option (Int ⊕ (Cmd×Int)):=
 (F84 0 a b d g).bind λi=>
 Q0i (e a b d (IntKind.wrap .i64 (g+1))) λ(j,f)=>
 (F84 0 a b d f).bind λk=>
 (F129 k).bind λl=>
 (bif l then
  Q0i (e a b d f) λ(m,n)=>
  (appO 88 [j] [m]).bind λo=>
  iter (Q6k a b d e i) BIG (n,o)
 else
  some (.inr (Cmd.mk 16 i.at_ [] [j] [] [],f)))
def S230(a:Y1):=SQ11 230 (F230 a)
def Q5i(e:Str)(f:List Token)(g:List Str)(l:Y1)(m:Token)(i:(Int×(List Word)×(List Redir))->Option (Int ⊕ (Cmd×Int))):(Int×(List Word)×(List Redir))->Option (Int ⊕ (Cmd×Int)):=λ(a,b,d)=>
 (F84 0 e f g a).bind λj=>
 (Q0e (decide ((b.length:Int)=0)&&decide (0<(d.length:Int))) (F83 j)).bind λk=>
 (bif ((((decide ((b.length:Int)=0)&&decide (0<(d.length:Int)))&&!decide (k=[]))&&!decide (k=[110,111,116]))&&!decide (k=[105,110]))then
  Q0i (F48 e f g a) λ_=>
  i (a,b,d)
 else
  (F129 j).bind λn=>
  (bif n then
   Q0i (l e f g a) λ(o,p)=>
   (appO 88 b [o]).bind λq=>
   i (p,q,d)
  else
   (F130 j).bind λr=>
   (bif r then
    Q0i (F254 l e f g a) λ(s,t)=>
    (appO 120 d [s]).bind λu=>
    i (t,b,u)
   else
    some (.inr (Cmd.mk 1 m.at_ [] b d [],a)))))
def F231(f:Y1)(a:Str)(b:List Token)(d:List Str)(e:Int):Option (Int ⊕ (Cmd×Int)):=
 (F84 0 a b d e).bind λg=>
 iter (Q5i a b d f g) BIG (e,([]:List Word),([]:List Redir))
def S231(a:Y1):=SQ11 231 (F231 a)
def Z0r(g:Bool)(a:Str)(b:List Token)(d:List Str)(f:Y1):Int->Option (Int ⊕ (Cmd×Int)):=λe=>
 (F81 g a b d e).bind λi=>
 (bif !i then
  Q0i (F48 a b d e) λ_=>
  Q0i (F231 f a b d e) λ(j,k)=>
  some (.inr (j,k))
 else
  Q0i (F231 f a b d e) λ(l,m)=>
  some (.inr (l,m)))
def F200(f:Y0)(i:Y1)(g:Bool)(a:Str)(b:List Token)(d:List Str)(e:Int):Option (Int ⊕ (Cmd×Int)):=
 (F84 0 a b d e).bind λk=>
 (F84 1 a b d e).bind λm=>
 (F133 k).bind λl=>
 (Q0e l (F144 k.text_)).bind λn=>
 (Q0e (l&&n) (F128 m [61])).bind λo=>
 (bif ((l&&n)&&o)then
  Q0i (F223 f i g a b d e) λ(p,q)=>
  some (.inr (p,q))
 else
  (F128 k [33]).bind λr=>
  (bif r then
   Q0i (F224 f 7 1 g a b d e) λ(s,t)=>
   some (.inr (s,t))
  else
   (F128 k [64]).bind λu=>
   (bif u then
    Q0i (F224 f 13 1 g a b d e) λ(w,x)=>
    some (.inr (w,x))
   else
    (F128 k [123]).bind λy=>
    (bif y then
     Q0i (F225 f i a b d e) λ(z,A)=>
     some (.inr (z,A))
    else
     (F83 k).bind λj=>
     (bif decide (j=[105,102])then
      (F83 m).bind λC=>
      (bif decide (C=[110,111,116])then
       Q0i (F224 f 9 2 g a b d e) λ(D,E)=>
       some (.inr (D,E))
      else
       Q0i (F226 f 8 g a b d e) λ(F,H)=>
       some (.inr (F,H)))
     else
      (bif decide (j=[119,104,105,108,101])then
       Q0i (F226 f 11 g a b d e) λ(I,J)=>
       some (.inr (I,J))
      else
       (bif decide (j=[102,111,114])then
        Q0i (F227 f i g a b d e) λ(K,L)=>
        some (.inr (K,L))
       else
        (bif decide (j=[115,119,105,116,99,104])then
         Q0i (F228 f i a b d e) λ(M,N)=>
         some (.inr (M,N))
        else
         (bif decide (j=[102,110])then
          Q0i (F229 f a b d e) λ(O,P)=>
          some (.inr (O,P))
         else
          (bif decide (j=[126])then
           Q0i (F230 i a b d e) λ(Q,S)=>
           some (.inr (Q,S))
          else
           (bif decide (j=[99,97,115,101])then
            Q0i (F48 a b d (IntKind.wrap .i64 (e+1))) λ_=>
            Z0r g a b d i (IntKind.wrap .i64 (e+1))
           else
            Z0r g a b d i e)))))))))))
def S200:=SQ9 200
def Z7d(a:Str)(b:List Token)(d:List Str)(e:Int)(f:Str)(g:List Word):Unit->Option (Int ⊕ (Word×Int)):=λ_=>
 Q0i (F255 [41] a b d e) λ(j,i)=>
 some (.inr (Word.mk 7 f [] g [],i))
def F286(l:Y1)(a:Str)(b:List Token)(d:List Str)(j:Int):Option (Int ⊕ (Word×Int)):=
 (F84 0 a b d j).bind λk=>
 Q0i (F256 a b d j) λ(f,e)=>
 (F127 [40] a b d e).bind λm=>
 (bif !m then
  some (.inr (Word.mk 2 f [] [] [],e))
 else
  (F84 0 a b d e).bind λn=>
  (bif !decide (n.at_=IntKind.wrap .i64 (k.at_+(k.text_.length:Int)))then
   some (.inr (Word.mk 2 f [] [] [],e))
  else
   Q0i (F257 l a b d (IntKind.wrap .i64 (e+1))) λ(g,i)=>
   (bif decide ((g.length:Int)=0)then
    Q0i (F48 a b d i) λ_=>
    Z7d a b d i f g ()
   else
    Z7d a b d i f g ())))
def SQ12(n:FuncId)(F:Str->(List Token)->(List Str)->Int->Option (Int ⊕ (Word×Int))):Spec:=mkS n (un4 F) (λ(a,b,c,d)=>([.ref 0 0],[V4 a b c d])) (λ(a,b,c,d) r=>match r with|.inl n=>.boom (syn n)|.inr (e,f)=>.ret [.pv (PV.agg [.int .i64 e.kind_,.str e.text_,.str e.quoted_,.slice (List.map Word.pv e.words_),.slice (List.map Cmd.pv e.cmd_)])] [V4 a b c f])
def S286(a:Y1):=SQ12 286 (F286 a)
def Z7e(a:Token)(b:Int)(g:Y1)(d:Str)(e:List Token)(f:List Str)(i:Y0):Unit->Option (Int ⊕ (Word×Int)):=λ_=>
 (bif decide (a.kind_=1)then
  some (.inr (Word.mk 1 a.text_ a.quoted_ [] [],IntKind.wrap .i64 (b+1)))
 else
  (bif decide (a.text_=[36])then
   Q0i (F286 g d e f (IntKind.wrap .i64 (b+1))) λ(j,k)=>
   some (.inr (j,k))
  else
   (bif decide (a.text_=[36,35])then
    Q0i (F256 d e f (IntKind.wrap .i64 (b+1))) λ(l,m)=>
    some (.inr (Word.mk 3 l [] [] [],m))
   else
    (bif decide (a.text_=[40])then
     Q0i (F257 g d e f (IntKind.wrap .i64 (b+1))) λ(n,o)=>
     Q0i (F255 [41] d e f o) λ(s,p)=>
     some (.inr (Word.mk 5 [] [] n [],p))
    else
     Q0i (F253 i d e f (IntKind.wrap .i64 (b+1))) λ(q,r)=>
     some (.inr (Word.mk 6 [] [] [] q,r))))))
def F274(g:Y0)(i:Y1)(a:Str)(b:List Token)(d:List Str)(e:Int):Option (Int ⊕ (Word×Int)):=
 (F84 0 a b d e).bind λf=>
 (F129 f).bind λj=>
 (bif !j then
  Q0i (F48 a b d e) λ_=>
  Z7e f e i a b d g ()
 else
  Z7e f e i a b d g ())
def S274(a:Y0)(b:Y1):=SQ12 274 (F274 a b)
def Z0q(d:Str)(e:List Token)(f:List Str)(g:Y0)(i:Y1)(j:(Int×(List Word))->Option (Int ⊕ (Word×Int))):(Int×(List Word))->Option (Int ⊕ (Word×Int)):=λ(k,a)=>
 (F132 [94] d e f k).bind λ(l,b)=>
 (bif l then
  Q0i (F274 g i d e f b) λ(m,n)=>
  (appO 88 a [m]).bind λo=>
  j (n,o)
 else
  (bif decide ((a.length:Int)=1)then
   (lidx a 0).bind λp=>
   some (.inr (p,b))
  else
   some (.inr (Word.mk 4 [] [] a [],b))))
def F252(f:Y0)(g:Y1)(a:Str)(b:List Token)(d:List Str)(j:Int):Option (Int ⊕ (Word×Int)):=
 Q0i (F274 f g a b d j) λ(e,k)=>
 (F132 [94] a b d k).bind λ(l,i)=>
 (bif l then
  Q0i (F274 f g a b d i) λ(m,n)=>
  (appO 88 [e] [m]).bind λo=>
  iter (Z0q a b d f g) BIG (n,o)
 else
  (bif decide (([e].length:Int)=1)then
   some (.inr (e,i))
  else
   some (.inr (Word.mk 4 [] [] [e] [],i))))
def S252:=SQ12 252
mutual
def K200:Nat->Bool->Str->(List Token)->(List Str)->Int->Option (Int ⊕ (Cmd×Int))
 | 0=>λ_ _ _ _ _=>none
 | n+1=>F200 (K200 n) (K252 n)
def K252:Nat->Str->(List Token)->(List Str)->Int->Option (Int ⊕ (Word×Int))
 | 0=>λ_ _ _ _=>none
 | n+1=>F252 (K200 n) (K252 n)
end
def F20(b:Str)(a:List Token):Option ((List Cmd)×Int×Int):=
 (F46 b a).bind λd=>
 match F47 (K200 BIG) false b a d 0 with
 | none=>none
 | some (.inl n)=>some ([],n,47)
 | some (.inr (f,e))=>
  (bif decide (e<(a.length:Int))then
   match F48 b a d e with
   | some (.inl n)=>some ([],n,47)
   | _=>none
  else
   some (f,0,0))
def S20:Spec:=mkS 20 (un2 F20) (λ(a,b)=>([as_ a,.pv (.slice (List.map Token.pv b))],[])) (λ(a,b) (c,d,e)=>.ret [.pv (.slice (List.map Cmd.pv c)),ai d,ai e] [])
def F32(a:Redir):Option Bool:=
 some (!decide (a.kind_=5)&&!decide (a.kind_=6))
def S32:Spec:=mkS 32 F32 (λa=>([.pv (PV.agg [.int .i64 a.kind_,.int .i64 a.fd_,.int .i64 a.from_,.int .i64 a.word_.kind_,.str a.word_.text_,.str a.word_.quoted_,.slice (List.map Word.pv a.word_.words_),.slice (List.map Cmd.pv a.word_.cmd_),.bool a.raw_])],[])) (λa b=>.ret [ab b] [])
def J3t(d:Cmd)(g:Y10)(i:(Int×Int)->Option Int)(i4:Int)(e:(Int×Int)->Option Int):(Int×Int)->Option Int:=λ(b,a)=>
 (bif decide (a<(d.redirs_.length:Int))then
  (lidx d.redirs_ a).bind λf=>
  (F32 f).bind λj=>
  (bif j then
   (g f.word_).bind λk=>
   e (IntKind.wrap .i64 (b+k),IntKind.wrap .i64 (a+1))
  else
   e (b,IntKind.wrap .i64 (a+1)))
 else
  i (b,IntKind.wrap .i64 (i4+1)))
def J8h(a:Cmd)(d:Y10)(f:(Int×Int)->Option Int)(i4:Int)(g:(Int×Int)->Option Int):(Int×Int)->Option Int:=λ(e,b)=>
 (bif decide (b<(a.words_.length:Int))then
  (lidx a.words_ b).bind λi=>
  (d i).bind λj=>
  g (IntKind.wrap .i64 (e+j),IntKind.wrap .i64 (b+1))
 else
  iter (J3t a d f i4) BIG (e,0))
def Z9j(b:List Cmd)(e:Y7)(f:Y10)(g:(Int×Int)->Option Int):(Int×Int)->Option Int:=λ(d,i4)=>
 (bif decide (i4<(b.length:Int))then
  (lidx b i4).bind λa=>
  (e a.kids_).bind λi=>
  iter (J8h a f g i4) BIG (IntKind.wrap .i64 (d+(IntKind.wrap .i64 ((IntKind.wrap .i64 (1+(a.redirs_.length:Int)))+i))),0)
 else
  some d)
def F15(a:Y7)(b:Y10)(d:List Cmd):Option Int:=
 iter (Z9j d a b) BIG (0,0)
def SQ13(n:FuncId)(F:(List Cmd)->Option (Int)):Spec:=mkS n F (λa=>([.pv (.slice (List.map Cmd.pv a))],[])) (λa b=>.ret [ai b] [])
def S15:=SQ13 15
def X5r(w1:Word)(d:Y10)(e:(Int×Int)->Option Int):(Int×Int)->Option Int:=λ(b,a)=>
 (bif decide (a<(w1.words_.length:Int))then
  (lidx w1.words_ a).bind λf=>
  (d f).bind λg=>
  e (IntKind.wrap .i64 (b+g),IntKind.wrap .i64 (a+1))
 else
  some b)
def F31(a:Y7)(b:Y10)(w1:Word):Option Int:=
 (a w1.cmd_).bind λd=>
 iter (X5r w1 b) BIG (IntKind.wrap .i64 (1+d),0)
def SQ14(n:FuncId)(F:Word->Option (Int)):Spec:=mkS n F (λa=>([.pv (PV.agg [.int .i64 a.kind_,.str a.text_,.str a.quoted_,.slice (List.map Word.pv a.words_),.slice (List.map Cmd.pv a.cmd_)])],[])) (λa b=>.ret [ai b] [])
def S31:=SQ14 31
mutual
def K15:Nat->(List Cmd)->Option (Int)
 | 0=>λ_=>none
 | n+1=>F15 (K15 n) (K31 n)
def K31:Nat->Word->Option (Int)
 | 0=>λ_=>none
 | n+1=>F31 (K15 n) (K31 n)
end
def J3o(d:Cmd)(g:Y10)(e:(Int×Int)->Option Int):(Int×Int)->Option Int:=λ(b,a)=>
 (bif decide (a<(d.redirs_.length:Int))then
  (lidx d.redirs_ a).bind λf=>
  (F32 f).bind λi=>
  (bif i then
   (g f.word_).bind λj=>
   e (imax b j,IntKind.wrap .i64 (a+1))
  else
   e (b,IntKind.wrap .i64 (a+1)))
 else
  some (IntKind.wrap .i64 (b+1)))
def J8b(a:Cmd)(d:Y10)(f:(Int×Int)->Option Int):(Int×Int)->Option Int:=λ(e,b)=>
 (bif decide (b<(a.words_.length:Int))then
  (lidx a.words_ b).bind λg=>
  (d g).bind λi=>
  f (imax e i,IntKind.wrap .i64 (b+1))
 else
  iter (J3o a d) BIG (e,0))
def X5m(a:Cmd)(d:Y11)(e:Y10)(f:(Int×Int)->Option Int):(Int×Int)->Option Int:=λ(b,i4)=>
 (bif decide (i4<(a.kids_.length:Int))then
  (lidx a.kids_ i4).bind λg=>
  (d g).bind λi=>
  f (imax b i,IntKind.wrap .i64 (i4+1))
 else
  iter (J8b a e) BIG (b,0))
def F51(a:Y11)(b:Y10)(d:Cmd):Option Int:=
 iter (X5m d a b) BIG (0,0)
def S51(F:Cmd->Option (Int)):Spec:=mkS 51 F (λa=>([.pv (PV.agg [.int .i64 a.kind_,.int .i64 a.at_,.str a.name_,.slice (List.map Word.pv a.words_),.slice (List.map Redir.pv a.redirs_),.slice (List.map Cmd.pv a.kids_)])],[])) (λa b=>.ret [ai b] [])
def J7y(w1:Word)(d:Y11)(e:(Int×Int)->Option Int):(Int×Int)->Option Int:=λ(b,a)=>
 (bif decide (a<(w1.cmd_.length:Int))then
  (lidx w1.cmd_ a).bind λf=>
  (d f).bind λg=>
  e (imax b g,IntKind.wrap .i64 (a+1))
 else
  some (IntKind.wrap .i64 (b+1)))
def X5h(w1:Word)(b:Y10)(d:Y11)(e:(Int×Int)->Option Int):(Int×Int)->Option Int:=λ(a,i4)=>
 (bif decide (i4<(w1.words_.length:Int))then
  (lidx w1.words_ i4).bind λf=>
  (b f).bind λg=>
  e (imax a g,IntKind.wrap .i64 (i4+1))
 else
  iter (J7y w1 d) BIG (a,0))
def F86(a:Y11)(b:Y10)(w1:Word):Option Int:=
 iter (X5h w1 b a) BIG (0,0)
def S86:=SQ14 86
mutual
def K51:Nat->Cmd->Option (Int)
 | 0=>λ_=>none
 | n+1=>F51 (K51 n) (K86 n)
def K86:Nat->Word->Option (Int)
 | 0=>λ_=>none
 | n+1=>F86 (K51 n) (K86 n)
end
def F50(a:Cmd):Option Bool:=
 (K51 BIG a).bind λb=>
 some (decide (32<b))
def SQ15(n:FuncId)(F:Cmd->Option (Bool)):Spec:=mkS n F (λa=>([.pv (PV.agg [.int .i64 a.kind_,.int .i64 a.at_,.str a.name_,.slice (List.map Word.pv a.words_),.slice (List.map Redir.pv a.redirs_),.slice (List.map Cmd.pv a.kids_)])],[])) (λa b=>.ret [ab b] [])
def S50:=SQ15 50 F50
def X5i(a:List Cmd)(b:Int->Option Int):Int->Option Int:=λi3=>
 (bif decide (i3<(a.length:Int))then
  (lidx a i3).bind λd=>
  (F50 d).bind λe=>
  (bif e then
   some i3
  else
   b (IntKind.wrap .i64 (i3+1)))
 else
  some (-1))
def F85(a:List Cmd):Option Int:=
 iter (X5i a) BIG 0
def S85:Spec:=mkS 85 F85 (λa=>([.pv (.slice (List.map Cmd.pv a)),.fn 50 []],[])) (λa b=>.ret [ai b] [])
def F49(a:List Cmd):Option Bool:=
 (F85 a).bind λb=>
 some (decide (0<=b))
def S49:Spec:=mkS 49 F49 (λa=>([.pv (.slice (List.map Cmd.pv a)),.fn 50 []],[])) (λa b=>.ret [ab b] [])
def F21(a:List Cmd):Option Bool:=
 (K15 BIG a).bind λb=>
 (bif decide (b<=1024)then
  (F49 a).bind λd=>
  some (!d)
 else
  some false)
def SQ16(n:FuncId)(F:(List Cmd)->Option (Bool)):Spec:=mkS n F (λa=>([.pv (.slice (List.map Cmd.pv a))],[])) (λa b=>.ret [ab b] [])
def S21:=SQ16 21 F21
def F8(a:Str):Option ((List Cmd)×Int×Int):=
 (F19 a).bind λ(f,g,b)=>
 (bif !decide (b=0)then
  some ([],g,b)
 else
  (F20 a f).bind λ(d,i,e)=>
  (bif !decide (e=0)then
   some ([],i,e)
  else
   (F21 d).bind λj=>
   (bif !j then
    some ([],0,4)
   else
    some (d,0,0))))
def SQ17(n:FuncId)(F:Str->Option ((List Cmd)×Int×Int)):Spec:=mkS n F (λa=>([as_ a],[])) (λa (b,c,d)=>.ret [.pv (.slice (List.map Cmd.pv b)),ai c,ai d] [])
def S8:=SQ17 8 F8
def F64(b:Y8)(a:Cmd):Option Bool:=
 (bif !decide (a.kind_=14)then
  (b a).bind λd=>
  some d
 else
  none)
def S64(a:Y8):=SQ15 64 (F64 a)
def F63(a:Y8)(b:Cmd):Option Bool:=
 (F64 a b).bind λd=>
 some (!d)
def S63(a:Y8):=SQ15 63 (F63 a)
def J7z(a:List Cmd)(b:Y8)(d:Int->Option Int):Int->Option Int:=λi3=>
 (bif decide (i3<(a.length:Int))then
  (lidx a i3).bind λe=>
  (F63 b e).bind λf=>
  (bif f then
   some i3
  else
   d (IntKind.wrap .i64 (i3+1)))
 else
  some (-1))
def X8v(a:Y8)(b:List Cmd):Option Int:=
 iter (J7z b a) BIG 0
def X8m(d:Y8):Spec:=mkS 85 (X8v d) (λa=>([.pv (.slice (List.map Cmd.pv a)),.fn 63 []],[])) (λa b=>.ret [ai b] [])
def X8w(a:Y8)(b:List Cmd):Option Bool:=
 (X8v a b).bind λd=>
 some (decide (0<=d))
def X8o(d:Y8):Spec:=mkS 49 (X8w d) (λa=>([.pv (.slice (List.map Cmd.pv a)),.fn 63 []],[])) (λa b=>.ret [ab b] [])
def F29(a:Y8)(b:List Cmd):Option Bool:=
 (X8w a b).bind λd=>
 some (!d)
def S29(a:Y8):=SQ16 29 (F29 a)
def F143(b:Y8)(a:Cmd):Option Bool:=
 (bif !decide (a.kind_=3)then
  (b a).bind λd=>
  some d
 else
  none)
def S143(a:Y8):=SQ15 143 (F143 a)
def F98(b:Y8)(a:Cmd):Option Bool:=
 (bif (!decide (a.kind_=5)&&!decide (a.kind_=6))then
  (F143 b a).bind λd=>
  some d
 else
  none)
def S98:=SQ15 98
def F99(a:Cmd)(b:Shape):Option Bool:=
 (F144 a.name_).bind λd=>
 (bif (!(b.name_==d)||(!b.name_&&!decide (a.name_=[])))then
  none
 else
  some ((b.words_||decide ((a.words_.length:Int)=0))&&(b.redirs_||decide ((a.redirs_.length:Int)=0))))
def S99:Spec:=mkS 99 (un2 F99) (λ(a,b)=>([.pv (PV.agg [.int .i64 a.kind_,.int .i64 a.at_,.str a.name_,.slice (List.map Word.pv a.words_),.slice (List.map Redir.pv a.redirs_),.slice (List.map Cmd.pv a.kids_)]),.pv (PV.agg [.bool b.name_,.bool b.words_,.bool b.redirs_])],[])) (λ(a,b) c=>.ret [ab c] [])
def X5u(a:List Redir)(b:Unit->Option Int):Unit->Option Int:=λ_=>
 (bif decide (0<(a.length:Int))then
  none
 else
  some (-1))
def F262(a:List Redir):Option Int:=
 iter (X5u a) BIG ()
def S262:Spec:=mkS 262 F262 (λa=>([.pv (.slice (List.map Redir.pv a)),.fn 236 []],[])) (λa b=>.ret [ai b] [])
def F235(a:List Redir):Option Bool:=
 (F262 a).bind λb=>
 some (decide (0<=b))
def S235:Spec:=mkS 235 F235 (λa=>([.pv (.slice (List.map Redir.pv a)),.fn 236 []],[])) (λa b=>.ret [ab b] [])
def F209(a:List Redir):Option Bool:=
 (F235 a).bind λb=>
 some (!b)
def S209:Spec:=mkS 209 F209 (λa=>([.pv (.slice (List.map Redir.pv a))],[])) (λa b=>.ret [ab b] [])
def F210(d:Y8)(a:Cmd):Option Bool:=
 (Q0e (decide (a.kind_=12)) (F99 a (Shape.mk false false false))).bind λb=>
 (Q0e (decide (a.kind_=12)&&b) (F29 d a.kids_)).bind λe=>
 some ((decide (a.kind_=12)&&b)&&e)
def S210(a:Y8):=SQ15 210 (F210 a)
def X5t(w1:Word)(a:Int->Option Bool):Int->Option Bool:=λi4=>
 (bif decide (i4<(w1.quoted_.length:Int))then
  (sidx w1.quoted_ i4).bind λc9=>
  (bif (!decide (c9=48)&&!decide (c9=49))then
   none
  else
   a (IntKind.wrap .i64 (i4+1)))
 else
  some true)
def F263(w1:Word):Option Bool:=
 (bif !decide ((w1.text_.length:Int)=(w1.quoted_.length:Int))then
  none
 else
  iter (X5t w1) BIG 0)
def SQ18(n:FuncId)(F:Word->Option (Bool)):Spec:=mkS n F (λa=>([.pv (PV.agg [.int .i64 a.kind_,.str a.text_,.str a.quoted_,.slice (List.map Word.pv a.words_),.slice (List.map Cmd.pv a.cmd_)])],[])) (λa b=>.ret [ab b] [])
def S263:=SQ18 263 F263
def X5s(w1:Word)(f:Int->Option Bool):Int->Option Bool:=λa=>
 (bif decide (a<(w1.text_.length:Int))then
  (sidx w1.quoted_ a).bind λb=>
  (Q0e (decide (b=48)) (sidx w1.text_ a)).bind λd=>
  (Q0e (decide (b=48)) (Q0h [32,9,10,59,38,124,40,41,123,125,60,62,61,94,96,36,39] d)).bind λe=>
  (Q0e (!(decide (b=48)&&decide (0<=e))&&(decide (b=48)&&decide (a=0))) (Q0h [35,33,64] d)).bind λg=>
  (bif ((decide (b=48)&&decide (0<=e))||((decide (b=48)&&decide (a=0))&&decide (0<=g)))then
   none
  else
   f (IntKind.wrap .i64 (a+1)))
 else
  some true)
def F278(w1:Word):Option Bool:=
 (F263 w1).bind λa=>
 (bif !a then
  none
 else
  iter (X5s w1) BIG 0)
def S278:=SQ18 278 F278
def F260(w1:Word):Option Bool:=
 (F144 w1.text_).bind λa=>
 (bif decide (w1.kind_=1)then
  (Q0e (decide ((w1.words_.length:Int)=0)&&decide ((w1.cmd_.length:Int)=0)) (F278 w1)).bind λb=>
  some ((decide ((w1.words_.length:Int)=0)&&decide ((w1.cmd_.length:Int)=0))&&b)
 else
  (bif (bif decide (w1.kind_=2)then decide (w1.kind_=2)else decide (w1.kind_=3))then
   some (((a&&decide (w1.quoted_=[]))&&decide ((w1.cmd_.length:Int)=0))&&decide ((w1.words_.length:Int)=0))
  else
   none))
def S260:=SQ18 260 F260
def F234(w1:Word):Option Bool:=
 (bif !decide (w1.kind_=4)then
  (F260 w1).bind λa=>
  some a
 else
  none)
def S234:=SQ18 234 F234
def F233(w1:Word):Option Bool:=
 (F234 w1).bind λa=>
 some (!a)
def S233:=SQ18 233 F233
def X5v(a:List Word)(b:Int->Option Int):Int->Option Int:=λi3=>
 (bif decide (i3<(a.length:Int))then
  (lidx a i3).bind λd=>
  (F233 d).bind λe=>
  (bif e then
   none
  else
   b (IntKind.wrap .i64 (i3+1)))
 else
  some (-1))
def F259(a:List Word):Option Int:=
 iter (X5v a) BIG 0
def S259:Spec:=mkS 259 F259 (λa=>([.pv (.slice (List.map Word.pv a)),.fn 233 []],[])) (λa b=>.ret [ai b] [])
def F232(a:List Word):Option Bool:=
 (F259 a).bind λb=>
 some (decide (0<=b))
def S232:Spec:=mkS 232 F232 (λa=>([.pv (.slice (List.map Word.pv a)),.fn 233 []],[])) (λa b=>.ret [ab b] [])
def F207(a:List Word):Option Bool:=
 (F232 a).bind λb=>
 some (!b)
def S207:Spec:=mkS 207 F207 (λa=>([.pv (.slice (List.map Word.pv a))],[])) (λa b=>.ret [ab b] [])
def F213(a:Cmd):Option Bool:=
 (Q0e (!(decide (IntKind.wrap .i64 ((a.words_.length:Int)+(a.redirs_.length:Int))=0))) (F207 a.words_)).bind λd=>
 (Q0e (!(decide (IntKind.wrap .i64 ((a.words_.length:Int)+(a.redirs_.length:Int))=0)||!d)) (F209 a.redirs_)).bind λf=>
 (bif ((decide (IntKind.wrap .i64 ((a.words_.length:Int)+(a.redirs_.length:Int))=0)||!d)||!f)then
  none
 else
  (bif decide ((a.words_.length:Int)=0)then
   none
  else
   (lidx a.words_ 0).bind λb=>
   (bif decide (b.kind_=4)then
    none
   else
    (Q0e (decide (b.kind_=1)) (Q0h b.quoted_ 49)).bind λe=>
    (Q0e (decide (b.kind_=1)&&decide (e<0)) (F134 b.text_)).bind λg=>
    some ((!((decide (b.kind_=1)&&decide (e<0))&&g)||decide (b.text_=[110,111,116]))||decide (b.text_=[105,110])))))
def S213:=SQ15 213 F213
def F182(f k:Y8)(a:Cmd):Option Bool:=
 (bif decide (a.kind_=2)then
  none
 else
  (bif (bif decide (a.kind_=7)then decide (a.kind_=7)else(bif decide (a.kind_=13)then decide (a.kind_=13)else decide (a.kind_=9)))then
   none
  else
   (bif decide (a.kind_=12)then
    (F99 a (Shape.mk false false true)).bind λd=>
    (Q0e d (F29 f a.kids_)).bind λg=>
    (Q0e (d&&g) (F209 a.redirs_)).bind λl=>
    some ((d&&g)&&l)
   else
    (bif (bif decide (a.kind_=8)then decide (a.kind_=8)else decide (a.kind_=11))then
     (F99 a (Shape.mk false false false)).bind λb=>
     (Q0e (b&&decide ((a.kids_.length:Int)=2)) (lidx a.kids_ 0)).bind λm=>
     (Q0e (b&&decide ((a.kids_.length:Int)=2)) (F210 f m)).bind λe=>
     (Q0e ((b&&decide ((a.kids_.length:Int)=2))&&e) (lidx a.kids_ 1)).bind λn=>
     (Q0e ((b&&decide ((a.kids_.length:Int)=2))&&e) (k n)).bind λo=>
     some (((b&&decide ((a.kids_.length:Int)=2))&&e)&&o)
    else
     (bif decide (a.kind_=10)then
      none
     else
      (bif decide (a.kind_=17)then
       none
      else
       (bif decide (a.kind_=15)then
        none
       else
        (bif decide (a.kind_=16)then
         (F99 a (Shape.mk false true false)).bind λi=>
         (Q0e ((i&&decide (1<=(a.words_.length:Int)))&&decide ((a.kids_.length:Int)=0)) (F207 a.words_)).bind λp=>
         some (((i&&decide (1<=(a.words_.length:Int)))&&decide ((a.kids_.length:Int)=0))&&p)
        else
         (bif decide (a.kind_=1)then
          (F99 a (Shape.mk false true true)).bind λj=>
          (Q0e (j&&decide ((a.kids_.length:Int)=0)) (F213 a)).bind λq=>
          some ((j&&decide ((a.kids_.length:Int)=0))&&q)
         else
          none)))))))))
def S182:=SQ15 182
mutual
def K98:Nat->Cmd->Option (Bool)
 | 0=>λ_=>none
 | n+1=>F98 (K182 n)
def K182:Nat->Cmd->Option (Bool)
 | 0=>λ_=>none
 | n+1=>F182 (K98 n) (K182 n)
end
def F13(a:List Cmd):Option Bool:=
 (F21 a).bind λb=>
 (Q0e b (F29 (K98 BIG) a)).bind λd=>
 some (b&&d)
def S13:=SQ16 13 F13
def F36(a:Str)(b:List Redir):Option Str:=some a
def S36:Spec:=mkS 36 (un2 F36) (λ(a,b)=>([.ref 0 0],[.prn 5 a 51 9 (List.map Redir.pv b)])) (λ(a,b) c=>.ret [as_ c] [.prn 5 a 51 9 (List.map Redir.pv b)])
def F108(a b:Str):Option Bool:=
 (F155 a b).bind λd=>
 some d
def S108:=SQ0 108 F108
def F163(a:Str)(b:List Redir):Option Unit:=some ()
def S163:Spec:=mkS 163 (un2 F163) (λ(a,b)=>([.ref 0 0],[.prn 5 a 51 9 (List.map Redir.pv b)])) (λ(a,b) (_:Unit)=>.ret [] [.prn 5 a 51 9 (List.map Redir.pv b)])
def F123(a b:Str)(d:List Redir):Option (Int×Str):=
 (F163 b d).bind λ_=>
 (apS b a).bind λe=>
 some ((a.length:Int),e)
def S123:Spec:=mkS 123 (un3 F123) (λ(a,b,c)=>([.ref 0 0,as_ a],[.prn 5 b 51 9 (List.map Redir.pv c)])) (λ(a,b,c) (d,e)=>.ret [ai d,.pv (.nil)] [.prn 5 e 51 9 (List.map Redir.pv c)])
def X6j(a:List Str)(d:List Redir)(e:(Int×Str)->Option Str):(Int×Str)->Option Str:=λ(i5,b)=>
 (bif decide (i5<(a.length:Int))then
  (lidx a i5).bind λf=>
  (F123 f b d).bind λ(i,g)=>
  e (IntKind.wrap .i64 (i5+1),g)
 else
  some b)
def F103(a:List Str)(b:Str)(d:List Redir):Option Str:=
 iter (X6j a d) BIG (0,b)
def S103:Spec:=mkS 103 (un3 F103) (λ(a,b,c)=>([.ref 0 0,.pv (.slice (List.map PV.str a))],[.prn 5 b 51 9 (List.map Redir.pv c)])) (λ(a,b,c) d=>.ret [] [.prn 5 d 51 9 (List.map Redir.pv c)])
def K0w(a:List Redir)(b:Str)(d:Unit->Option (Str×(List Redir))):Unit->Option (Str×(List Redir)):=λ_=>
 (bif decide (0<(a.length:Int))then
  none
 else
  some (b,([]:List Redir)))
def F67(b:Str)(a:List Redir):Option (Str×(List Redir)):=
 (F36 b a).bind λd=>
 (F108 d [92]).bind λe=>
 (bif e then
  none
 else
  (F103 [[10]] b a).bind λf=>
  iter (K0w a f) BIG ())
def S67:Spec:=mkS 67 (un2 F67) (λ(a,b)=>([.ref 0 0],[.prn 5 a 51 9 (List.map Redir.pv b)])) (λ(a,b) (c,d)=>.ret [] [.prn 5 c 51 9 (List.map Redir.pv d)])
def K0z(b:List Cmd)(f:Y5)(g:(Int×Str×(List Redir))->Option (Str×(List Redir))):(Int×Str×(List Redir))->Option (Str×(List Redir)):=λ(a,d,e)=>
 (bif decide (a<(b.length:Int))then
  (lidx b a).bind λi=>
  (f i d e).bind λ(j,k)=>
  (F67 j k).bind λ(l,m)=>
  g (IntKind.wrap .i64 (a+1),l,m)
 else
  some (d,e))
def F35(a:Y5)(b:List Cmd)(d:Str)(e:List Redir):Option (Str×(List Redir)):=
 iter (K0z b a) BIG (0,d,e)
def S35(f:Y5):Spec:=mkS 35 (un3 (F35 f)) (λ(a,b,c)=>([.ref 0 0,.pv (.slice (List.map Cmd.pv a))],[.prn 5 b 51 9 (List.map Redir.pv c)])) (λ(a,b,c) (d,e)=>.ret [] [.prn 5 d 51 9 (List.map Redir.pv e)])
def F104(b:Y5)(d:Str)(e:List Cmd)(f g:Str)(a:List Redir):Option (Str×(List Redir)):=
 (F103 [d] g a).bind λi=>
 (F67 i a).bind λ(j,k)=>
 (F35 b e j k).bind λ(l,m18)=>
 (F103 [f] l m18).bind λm=>
 some (m,m18)
def S104(i:Y5):Spec:=mkS 104 (un5 (F104 i)) (λ(a,b,c,d,e)=>([.ref 0 0,as_ a,.pv (.slice (List.map Cmd.pv b)),as_ c],[.prn 5 d 51 9 (List.map Redir.pv e)])) (λ(a,b,c,d,e) (f,g)=>.ret [] [.prn 5 f 51 9 (List.map Redir.pv g)])
def X6i(a:List Redir)(b:Unit->Option Unit):Unit->Option Unit:=λ_=>
 (bif decide (0<(a.length:Int))then
  none
 else
  some ())
def F105(a:List Redir)(b:Str)(d:List Redir):Option Unit:=
 iter (X6i a) BIG ()
def S105:Spec:=mkS 105 (un3 F105) (λ(a,b,c)=>([.ref 0 0,.pv (.slice (List.map Redir.pv a))],[.prn 5 b 51 9 (List.map Redir.pv c)])) (λ(a,b,c) (_:Unit)=>.ret [] [.prn 5 b 51 9 (List.map Redir.pv c)])
def X5y(w1:Word)(b:Int)(d:Str)(e:List Redir)(f:(Int×Str)->Option Str)(i:Int->Option Str):Int->Option Str:=λa=>
 (Q0e (decide (a<(w1.text_.length:Int))) (sidx w1.quoted_ a)).bind λj=>
 (Q0e (decide (a<(w1.text_.length:Int))) (sidx w1.quoted_ b)).bind λk=>
 (bif (decide (a<(w1.text_.length:Int))&&decide (j=k))then
  i (IntKind.wrap .i64 (a+1))
 else
  (Q0m w1.text_ b a).bind λg=>
  (sidx w1.quoted_ b).bind λl=>
  (bif decide (l=49)then
   (Q6d g [39] [39,39]).bind λm=>
   (catO [39] m).bind λn=>
   (catO n [39]).bind λo=>
   (F103 [o] d e).bind λp=>
   f (a,p)
  else
   (F103 [g] d e).bind λq=>
   f (a,q)))
def X5z(w1:Word)(d:List Redir)(e:(Int×Str)->Option Str):(Int×Str)->Option Str:=λ(a,b)=>
 (bif decide (a<(w1.text_.length:Int))then
  iter (X5y w1 a b d e) BIG a
 else
  some b)
def F190(w1:Word)(a:Str)(b:List Redir):Option Str:=
 (bif decide (w1.text_=[])then
  none
 else
  iter (X5z w1 b) BIG (0,a))
def SQ19(n:FuncId)(F:Word->Str->(List Redir)->Option (Str)):Spec:=mkS n (un3 F) (λ(a,b,c)=>([.ref 0 0,.pv (PV.agg [.int .i64 a.kind_,.str a.text_,.str a.quoted_,.slice (List.map Word.pv a.words_),.slice (List.map Cmd.pv a.cmd_)])],[.prn 5 b 51 9 (List.map Redir.pv c)])) (λ(a,b,c) d=>.ret [] [.prn 5 d 51 9 (List.map Redir.pv c)])
def S190:=SQ19 190 F190
def F152(w1:Word)(a:Str)(b:List Redir):Option Str:=
 (bif decide (w1.kind_=1)then
  (F190 w1 a b).bind λd=>
  some d
 else
  (bif decide (w1.kind_=2)then
   (F103 [[36],w1.text_] a b).bind λe=>
   some e
  else
   none))
def S152:=SQ19 152 F152
def X6h(a:Cmd)(b:List Redir)(e:(Int×Str)->Option Str):(Int×Str)->Option Str:=λ(i5,d)=>
 (bif decide (i5<(a.words_.length:Int))then
  (lidx a.words_ i5).bind λf=>
  (bif decide (0<i5)then
   (F103 [[32]] d b).bind λg=>
   (F152 f g b).bind λi=>
   e (IntKind.wrap .i64 (i5+1),i)
  else
   (F152 f d b).bind λj=>
   e (IntKind.wrap .i64 (i5+1),j))
 else
  (bif (decide ((a.words_.length:Int)=0)&&decide (0<(a.redirs_.length:Int)))then
   none
  else
   (F105 a.redirs_ d b).bind λ_=>
   some d))
def F106(a:Cmd)(b:Str)(d:List Redir):Option Str:=
 iter (X6h a d) BIG (0,b)
def S106:Spec:=mkS 106 (un3 F106) (λ(a,b,c)=>([.ref 0 0,.pv (PV.agg [.int .i64 a.kind_,.int .i64 a.at_,.str a.name_,.slice (List.map Word.pv a.words_),.slice (List.map Redir.pv a.redirs_),.slice (List.map Cmd.pv a.kids_)])],[.prn 5 b 51 9 (List.map Redir.pv c)])) (λ(a,b,c) d=>.ret [] [.prn 5 d 51 9 (List.map Redir.pv c)])
def X6f(a:List Word)(b:List Redir)(e:(Int×Str)->Option Str):(Int×Str)->Option Str:=λ(i5,d)=>
 (bif decide (i5<(a.length:Int))then
  (lidx a i5).bind λf=>
  (F103 [[32]] d b).bind λg=>
  (F152 f g b).bind λi=>
  e (IntKind.wrap .i64 (i5+1),i)
 else
  some d)
def F153(a:List Word)(b:Str)(d:List Redir):Option Str:=
 iter (X6f a d) BIG (0,b)
def S153:Spec:=mkS 153 (un3 F153) (λ(a,b,c)=>([.ref 0 0,.pv (.slice (List.map Word.pv a))],[.prn 5 b 51 9 (List.map Redir.pv c)])) (λ(a,b,c) d=>.ret [] [.prn 5 d 51 9 (List.map Redir.pv c)])
def F107(d:Y5)(a:Cmd)(e:Str)(b:List Redir):Option (Str×(List Redir)):=
 (bif decide (a.kind_=2)then
  none
 else
  (bif decide (a.kind_=8)then
   (lidx a.kids_ 0).bind λf=>
   (F104 d [105,102,40] f.kids_ [41,32] e b).bind λ(g,i)=>
   (lidx a.kids_ 1).bind λj=>
   (d j g i).bind λ(k,l)=>
   some (k,l)
  else
   (bif decide (a.kind_=11)then
    none
   else
    (bif decide (a.kind_=10)then
     none
    else
     (bif decide (a.kind_=17)then
      none
     else
      (bif decide (a.kind_=15)then
       none
      else
       (bif decide (a.kind_=16)then
        (F103 [[126]] e b).bind λm=>
        (F153 a.words_ m b).bind λn=>
        some (n,b)
       else
        none)))))))
def SQ20(n:FuncId)(F:Cmd->Str->(List Redir)->Option (Str×(List Redir))):Spec:=mkS n (un3 F) (λ(a,b,c)=>([.ref 0 0,.pv (PV.agg [.int .i64 a.kind_,.int .i64 a.at_,.str a.name_,.slice (List.map Word.pv a.words_),.slice (List.map Redir.pv a.redirs_),.slice (List.map Cmd.pv a.kids_)])],[.prn 5 b 51 9 (List.map Redir.pv c)])) (λ(a,b,c) (d,e)=>.ret [] [.prn 5 d 51 9 (List.map Redir.pv e)])
def S107(a:Y5):=SQ20 107 (F107 a)
def F66(e:Y5)(a:Cmd)(d:Str)(b:List Redir):Option (Str×(List Redir)):=
 (bif decide (a.kind_=14)then
  none
 else
  (bif decide (a.kind_=5)then
   none
  else
   (bif decide (a.kind_=6)then
    none
   else
    (bif decide (a.kind_=3)then
     none
    else
     (bif decide (a.kind_=7)then
      none
     else
      (bif decide (a.kind_=13)then
       none
      else
       (bif decide (a.kind_=9)then
        none
       else
        (bif decide (a.kind_=12)then
         (F104 e [123] a.kids_ [125] d b).bind λ(f,m15)=>
         (F105 a.redirs_ f m15).bind λ_=>
         some (f,m15)
        else
         (bif decide (a.kind_=1)then
          (F106 a d b).bind λg=>
          some (g,b)
         else
          (F107 e a d b).bind λ(i,j)=>
          some (i,j))))))))))
def S66:=SQ20 66
def K66:Nat->Cmd->Str->(List Redir)->Option (Str×(List Redir))
 | 0=>λ_ _ _=>none
 | n+1=>F66 (K66 n)
def F17(a:List Cmd):Option (Str×Int):=
 (F13 a).bind λb=>
 (bif !b then
  none
 else
  (F35 (K66 BIG) a [] ([]:List Redir)).bind λ(d,e)=>
  (F36 d e).bind λf=>
  some (f,0))
def S17:Spec:=mkS 17 F17 (λa=>([.pv (.slice (List.map Cmd.pv a))],[])) (λa (b,c)=>.ret [as_ b,ai c] [])
def F7:Option Bool:=
 (F8 [105,102,40,126,32,36,120,32,97,41,123,101,99,104,111,32,39,98,32,99,39,125]).bind λ(a,d,e)=>
 (Q0e (!((!decide (e=0)||!decide (d=0))||!decide ((a.length:Int)=1))) (lidx a 0)).bind λb=>
 (Q0e (!((((!decide (e=0)||!decide (d=0))||!decide ((a.length:Int)=1))||!decide (b.kind_=8))||!decide ((b.kids_.length:Int)=2))) (K15 BIG a)).bind λf=>
 (Q0e (!(((((!decide (e=0)||!decide (d=0))||!decide ((a.length:Int)=1))||!decide (b.kind_=8))||!decide ((b.kids_.length:Int)=2))||!decide (f=9))) (F13 a)).bind λg=>
 (bif ((((((!decide (e=0)||!decide (d=0))||!decide ((a.length:Int)=1))||!decide (b.kind_=8))||!decide ((b.kids_.length:Int)=2))||!decide (f=9))||!g)then
  some false
 else
  (F8 [97,32,124,32,124,32,98]).bind λ(m,i,j)=>
  (bif (!decide (i=4)||!decide (j=47))then
   some false
  else
   (F17 a).bind λ(k,l)=>
   some (decide (k=[105,102,40,10,126,32,36,120,32,97,10,41,32,123,10,101,99,104,111,32,39,98,32,99,39,10,125,10])&&decide (l=0))))
def S7(F:Option (Bool)):Spec:=mkS 7 (α:=Unit) (ρ:=Bool) (λ(_:Unit)=>F) (λ(_:Unit)=>([],[])) (λ(_:Unit) a=>.ret [ab a] [])
theorem S7_F(F:Option (Bool)):(S7 F).F ()=F:=rfl
def F135(a:Int):Option Bool:=
 some (((((decide (97<=a)&&decide (a<=122))||(decide (65<=a)&&decide (a<=90)))||(decide (48<=a)&&decide (a<=57)))||decide (a=95))||decide (a=42))
def S135:=SQ4 135 F135
def F53(b d:Int)(e:Bool)(a f g i:Int)(j:List Token)(k:List Str):Option (Int×Int×Bool×Int×Int):=
 some (b,d,e,(bif decide (a=0)then g else a),(bif decide (a=0)then i else f))
def S53:Spec:=mkS 53 (un9 F53) (λ(a,b,c,d,e,f,g,h,i)=>([.agg [ai a,.vec 0 (List.length h),ai b,ab c,.vec 1 (List.length i),ai d,ai e],ai f,ai g],[rTo h,rSt i])) (λ(a,b,c,d,e,f,g,h,i) (j,k,l,m,n)=>.ret [.agg [ai j,.vec 0 (List.length h),ai k,ab l,.vec 1 (List.length i),ai m,ai n]] [rTo h,rSt i])
def F89(b d:Int)(e:Bool)(f g:Int)(i:Token)(a:List Token)(j:List Str):Option (Int×Int×Bool×Int×Int×(List Token)):=
 (bif decide (1024<=(a.length:Int))then
  (F53 b d e f g 4 i.at_ a j).bind λ(k,l,m,n,o)=>
  some (k,l,m,n,o,a)
 else
  (appO 48 a [i]).bind λp=>
  some (b,d,e,f,g,p))
def S89:Spec:=mkS 89 (un8 F89) (λ(a,b,c,d,e,f,g,h)=>([.agg [ai a,.vec 0 (List.length g),ai b,ab c,.vec 1 (List.length h),ai d,ai e],.pv (PV.agg [.int .i64 f.kind_,.int .i64 f.at_,.str f.text_,.str f.quoted_])],[rTo g,rSt h])) (λ(a,b,c,d,e,f,g,h) (i,j,k,l,m,n)=>.ret [.agg [ai i,.vec 0 (List.length n),ai j,ab k,.vec 1 (List.length h),ai l,ai m]] [rTo n,rSt h])
def Z6v(d:Str)(b f:Int)(g:Bool)(i j:Int)(e:List Token)(k:List Str)(m:(Int×Str)->Option (Int×Int×Bool×Int×Int×(List Token))):(Int×Str)->Option (Int×Int×Bool×Int×Int×(List Token)):=λ(a,l)=>
 (Q0e (decide (a<(d.length:Int))) (sidx d a)).bind λc20=>
 (Q0e (decide (a<(d.length:Int))) (F135 c20)).bind λn=>
 (bif (decide (a<(d.length:Int))&&n)then
  (catO l [48]).bind λo=>
  m (IntKind.wrap .i64 (a+1),o)
 else
  (bif decide (a=b)then
   (F53 b f g i j 47 b e k).bind λ(p,q,r,s,t)=>
   some (p,q,r,s,t,e)
  else
   (Q0m d b a).bind λu=>
   (F89 b f g i j (Token.mk 1 b u l) e k).bind λ(z,A,C,w,x,y)=>
   some (a,a,false,w,x,y)))
def F87(b:Str)(a d:Int)(e:Bool)(f g:Int)(i:List Token)(j:List Str):Option (Int×Int×Bool×Int×Int×(List Token)):=
 iter (Z6v b a d e f g i j) BIG (a,[])
def S87:Spec:=mkS 87 (un8 F87) (λ(a,b,c,d,e,f,g,h)=>([as_ a,.agg [ai b,.vec 0 (List.length g),ai c,ab d,.vec 1 (List.length h),ai e,ai f]],[rTo g,rSt h])) (λ(a,b,c,d,e,f,g,h) (i,j,k,l,m,n)=>.ret [.agg [ai i,.vec 0 (List.length n),ai j,ab k,.vec 1 (List.length h),ai l,ai m]] [rTo n,rSt h])
def F88(a:Str)(b:Int):Option Int:=
 (Q0e (decide (b<(a.length:Int))) (sidx a b)).bind λc4=>
 (bif (decide (b<(a.length:Int))&&(decide (c4=32)||decide (c4=9)))then
  some 1
 else
  (Q0e (decide (IntKind.wrap .i64 (b+1)<(a.length:Int))) (sidx a b)).bind λd=>
  (Q0e (decide (IntKind.wrap .i64 (b+1)<(a.length:Int))&&decide (d=92)) (sidx a (IntKind.wrap .i64 (b+1)))).bind λe=>
  (bif ((decide (IntKind.wrap .i64 (b+1)<(a.length:Int))&&decide (d=92))&&decide (e=10))then
   some 2
  else
   some 0))
def SQ21(n:FuncId)(F:Str->Int->Option (Int)):Spec:=mkS n (un2 F) (λ(a,b)=>([as_ a,ai b],[])) (λ(a,b) c=>.ret [ai c] [])
def S88:=SQ21 88 F88
def Q8w(b:Str)(d:Int)(e:Str)(f:Int)(g:(Int)->Option (Str×Int×Int))(i:Int->Option (Str×Int×Int)):Int->Option (Str×Int×Int):=λa=>
 (Q0e (decide (a<(b.length:Int))) (sidx b a)).bind λj=>
 (bif (decide (a<(b.length:Int))&&!decide (j=10))then
  i (IntKind.wrap .i64 (a+1))
 else
  (Q0m b d a).bind λt21=>
  (bif decide (t21=e)then
   (Q0m b f d).bind λk=>
   some (k,imin (IntKind.wrap .i64 (a+1)) (b.length:Int),0)
  else
   g (IntKind.wrap .i64 (a+1))))
def Q2s(b d:Str)(e:Int)(f:Int->Option (Str×Int×Int)):Int->Option (Str×Int×Int):=λa=>
 (bif decide (a<(b.length:Int))then
  iter (Q8w b a d e f) BIG a
 else
  some ([],0,3))
def F54(b:Str)(a:Int)(d:Str):Option (Str×Int×Int):=
 (bif (decide (a<0)||decide ((b.length:Int)<a))then
  some ([],0,1)
 else
  iter (Q2s b d a) BIG a)
def S54:=SQ1 54 F54
def Z0b(e:List Str)(l:Str)(m:List Token)(j:(Int×Int×Int×Bool×Int×Int)->Option (Int×Int×Bool×Int×Int)):(Int×Int×Int×Bool×Int×Int)->Option (Int×Int×Bool×Int×Int):=λ(a,b,f,g,d,i)=>
 (bif (decide (a<(e.length:Int))&&decide (d=0))then
  (lidx e a).bind λn=>
  (F54 l b n).bind λ(u,o,k)=>
  (bif !decide (k=0)then
   (F53 b f g d i k b m e).bind λ(p,q,r,s,t)=>
   j (IntKind.wrap .i64 (a+1),p,q,r,s,t)
  else
   j (IntKind.wrap .i64 (a+1),o,f,g,d,i))
 else
  some (b,f,g,d,i))
def F90(a:Str)(b d:Int)(e:Bool)(f g:Int)(i:List Token)(j:List Str):Option (Int×Int×Bool×Int×Int):=
 iter (Z0b j a i) BIG (0,b,d,e,f,g)
def S90:Spec:=mkS 90 (un8 F90) (λ(a,b,c,d,e,f,g,h)=>([as_ a,.agg [ai b,.vec 0 (List.length g),ai c,ab d,.vec 1 (List.length h),ai e,ai f]],[rTo g,rSt h])) (λ(a,b,c,d,e,f,g,h) (i,j,k,l,m)=>.ret [.agg [ai i,.vec 0 (List.length g),ai j,ab k,.nils,ai l,ai m]] [rTo g,rSt h])
def J6c(a:Str)(b:Int)(d:Int->Option Bool):Int->Option Bool:=λi4=>
 (bif decide (i4<(a.length:Int))then
  (sidx a i4).bind λc9=>
  (bif decide (c9=b)then
   some true
  else
   d (IntKind.wrap .i64 (i4+1)))
 else
  some false)
def F136(a:Int)(b:Str):Option Bool:=
 iter (J6c b a) BIG 0
def S136:Spec:=mkS 136 (un2 F136) (λ(a,b)=>([.pv (.int .u8 a),as_ b],[])) (λ(a,b) c=>.ret [ab c] [])
def F138(a:Str)(b:Int):Option Bool:=
 (Q0e (decide (b<(a.length:Int))) (F88 a b)).bind λd=>
 (Q0e (decide (b<(a.length:Int))&&decide (d=0)) (sidx a b)).bind λe=>
 (Q0e (decide (b<(a.length:Int))&&decide (d=0)) (F136 e [10,59,38,124,40,41,123,125,60,62,61,94,96,36,39])).bind λf=>
 some ((decide (b<(a.length:Int))&&decide (d=0))&&!f)
def S138:Spec:=mkS 138 (un2 F138) (λ(a,b)=>([as_ a,ai b],[])) (λ(a,b) c=>.ret [ab c] [])
def Z3b(b d e:Str)(f:(Int×Str×Str)->Option Part):Int->Option Part:=λa=>
 (Q0m b a (IntKind.wrap .i64 (a+1))).bind λg=>
 (catO d g).bind λi=>
 (catO e [49]).bind λj=>
 f (IntKind.wrap .i64 (a+1),i,j)
def Q7t(a:Str)(f:Int)(e:(Int×Str×Str)->Option Part):(Int×Str×Str)->Option Part:=λ(i4,b,d)=>
 (bif decide (i4<(a.length:Int))then
  (sidx a i4).bind λc21=>
  (bif decide (c21=39)then
   (Q0e (!(decide (IntKind.wrap .i64 (i4+1)=(a.length:Int)))) (sidx a (IntKind.wrap .i64 (i4+1)))).bind λg=>
   (bif (decide (IntKind.wrap .i64 (i4+1)=(a.length:Int))||!decide (g=39))then
    some (Part.mk b d (IntKind.wrap .i64 (i4+1)) true)
   else
    Z3b a b d e (IntKind.wrap .i64 (i4+1)))
  else
   Z3b a b d e i4)
 else
  some (Part.mk [] [] f false))
def F139(b:Str)(a:Int):Option Part:=
 iter (Q7t b a) BIG (IntKind.wrap .i64 (a+1),[],[])
def SQ22(n:FuncId)(F:Str->Int->Option (Part)):Spec:=mkS n (un2 F) (λ(a,b)=>([as_ a,ai b],[])) (λ(a,b) c=>.ret [.pv (PV.agg [.str c.text_,.str c.quoted_,.int .i64 c.to_,.bool c.ok_])] [])
def S139:=SQ22 139 F139
def Z1x(b:Str)(g:(Str×Str×Int×Bool)->Option Part):(Str×Str×Int×Bool)->Option Part:=λ(e,f,a,j)=>
 (F138 b a).bind λi=>
 (Q0e (!i&&decide (a<(b.length:Int))) (sidx b a)).bind λk=>
 (bif (i||(decide (a<(b.length:Int))&&decide (k=39)))then
  (sidx b a).bind λl=>
  (bif decide (l=39)then
   (F139 b a).bind λd=>
   (bif !d.ok_ then
    some d
   else
    (catO e d.text_).bind λm=>
    (catO f d.quoted_).bind λn=>
    g (m,n,d.to_,true))
  else
   (Q0m b a (IntKind.wrap .i64 (a+1))).bind λo=>
   (catO e o).bind λp=>
   (catO f [48]).bind λq=>
   g (p,q,IntKind.wrap .i64 (a+1),true))
 else
  some (Part.mk e f a j))
def F94(a:Str)(b:Int):Option Part:=
 iter (Z1x a) BIG ([],[],b,true)
def S94:=SQ22 94 F94
def Q7x(l:Str)(f g:Int)(i:Bool)(j k:Int)(d:List Token)(b:List Str)(n:Int->Option (Int×Int×Bool×Int×Int×(List Token)×(List Str))):Int->Option (Int×Int×Bool×Int×Int×(List Token)×(List Str)):=λe=>
 (F88 l e).bind λm=>
 (bif decide (0<m)then
  n (IntKind.wrap .i64 (e+m))
 else
  (F94 l e).bind λa=>
  (bif !a.ok_ then
   (F53 f g i j k 48 a.to_ d b).bind λ(o,p,q,r,s)=>
   some (o,p,q,r,s,d,b)
  else
   (bif decide (a.to_=e)then
    (F53 f g i j k 47 e d b).bind λ(t,u,w,x,y)=>
    some (t,u,w,x,y,d,b)
   else
    (F89 f g i j k (Token.mk 4 f a.text_ a.quoted_) d b).bind λ(F,H,z,A,C,D)=>
    (appO 16 b [a.text_]).bind λE=>
    some (a.to_,(-1),z,A,C,D,E))))
def F91(b:Str)(a d:Int)(e:Bool)(f g:Int)(i:List Token)(j:List Str):Option (Int×Int×Bool×Int×Int×(List Token)×(List Str)):=
 iter (Q7x b a d e f g i j) BIG (IntKind.wrap .i64 (a+2))
def S91:Spec:=mkS 91 (un8 F91) (λ(a,b,c,d,e,f,g,h)=>([as_ a,.agg [ai b,.vec 0 (List.length g),ai c,ab d,.vec 1 (List.length h),ai e,ai f]],[rTo g,rSt h])) (λ(a,b,c,d,e,f,g,h) (i,j,k,l,m,n,o)=>.ret [.agg [ai i,.vec 0 (List.length n),ai j,ab k,.vec 1 (List.length o),ai l,ai m]] [rTo n,rSt o])
def Q6m(d:Str)(b:Int)(f:(Int×Int)->Option Int):(Int×Int)->Option Int:=λ(e,a)=>
 (Q0e (decide (a<(d.length:Int))) (sidx d a)).bind λc9=>
 (bif (((decide (a<(d.length:Int))&&decide (48<=c9))&&decide (c9<=57))&&decide (a<IntKind.wrap .i64 (b+3)))then
  (sidx d a).bind λg=>
  f (IntKind.wrap .i64 ((IntKind.wrap .i64 (10 * e))+(IntKind.wrap .i64 (IntKind.wrap .u8 (g-48)))),IntKind.wrap .i64 (a+1))
 else
  (Q0e (!(decide (a=b)||decide (64<=e))&&decide (IntKind.wrap .i64 (b+1)<a)) (sidx d b)).bind λi=>
  (bif ((decide (a=b)||decide (64<=e))||(decide (IntKind.wrap .i64 (b+1)<a)&&decide (i=48)))then
   some (-1)
  else
   some a))
def F170(b:Str)(a:Int):Option Int:=
 iter (Q6m b a) BIG (0,a)
def S170:=SQ21 170 F170
def Q7u(b:Str):Int->Option Int:=λa=>
 (Q0e (!(decide (a<0)||decide ((b.length:Int)<=a))) (sidx b a)).bind λc9=>
 (bif ((decide (a<0)||decide ((b.length:Int)<=a))||!decide (c9=93))then
  some (-1)
 else
  some (IntKind.wrap .i64 (a+1)))
def F137(a:Str)(d:Int)(e:Bool):Option Int:=
 (F170 a (IntKind.wrap .i64 (d+1))).bind λb=>
 (Q0e (decide (0<=b)&&decide (b<(a.length:Int))) (sidx a b)).bind λf=>
 (bif (((decide (0<=b)&&decide (b<(a.length:Int)))&&decide (f=61))&&e)then
  (Q0e (decide (IntKind.wrap .i64 (b+1)<(a.length:Int))) (sidx a (IntKind.wrap .i64 (b+1)))).bind λg=>
  (bif (decide (IntKind.wrap .i64 (b+1)<(a.length:Int))&&!decide (g=93))then
   (F170 a (IntKind.wrap .i64 (b+1))).bind λi=>
   Q7u a i
  else
   Q7u a (IntKind.wrap .i64 (b+1)))
 else
  Q7u a b)
def S137:Spec:=mkS 137 (un3 F137) (λ(a,b,c)=>([as_ a,ai b,ab c],[])) (λ(a,b,c) d=>.ret [ai d] [])
def Z8z(a:Int)(d:Str):Str->Option Int:=λb=>
 (bif ((decide (b=[38,38])||decide (b=[124,124]))||decide (b=[36,35]))then
  some (IntKind.wrap .i64 (a+2))
 else
  (sidx d a).bind λe=>
  (F136 e [59,38,124,40,41,123,125,60,62,61,94,96,36,33,64]).bind λg=>
  (bif !g then
   some a
  else
   (F136 e [60,62,124]).bind λf=>
   (Q0e (f&&decide ((bif decide (b=[62,62])then IntKind.wrap .i64 (a+2)else IntKind.wrap .i64 (a+1))<(d.length:Int))) (sidx d (bif decide (b=[62,62])then IntKind.wrap .i64 (a+2)else IntKind.wrap .i64 (a+1)))).bind λi=>
   (bif ((f&&decide ((bif decide (b=[62,62])then IntKind.wrap .i64 (a+2)else IntKind.wrap .i64 (a+1))<(d.length:Int)))&&decide (i=91))then
    (F137 d (bif decide (b=[62,62])then IntKind.wrap .i64 (a+2)else IntKind.wrap .i64 (a+1)) (!decide (e=124))).bind λj=>
    some j
   else
    some (bif decide (b=[62,62])then IntKind.wrap .i64 (a+2)else IntKind.wrap .i64 (a+1)))))
def F92(b:Str)(a:Int):Option Int:=
 (bif decide (IntKind.wrap .i64 (a+2)<=(b.length:Int))then
  (Q0m b a (IntKind.wrap .i64 (a+2))).bind λd=>
  Z8z a b d
 else
  Z8z a b [])
def S92:=SQ21 92 F92
def F93(a b:Int)(d:Bool)(e f:Int)(g:List Token)(i:List Str):Option (Int×Int×Bool×Int×Int×(List Token)):=
 (bif decide (b=a)then
  (F89 a b d e f (Token.mk 2 a [94] []) g i).bind λ(j,k,l,m,n,o)=>
  some (j,k,l,m,n,o)
 else
  some (a,b,d,e,f,g))
def S93:Spec:=mkS 93 (un7 F93) (λ(a,b,c,d,e,f,g)=>([.agg [ai a,.vec 0 (List.length f),ai b,ab c,.vec 1 (List.length g),ai d,ai e]],[rTo f,rSt g])) (λ(a,b,c,d,e,f,g) (h,i,j,k,l,m)=>.ret [.agg [ai h,.vec 0 (List.length m),ai i,ab j,.vec 1 (List.length g),ai k,ai l]] [rTo m,rSt g])
def Z3y(b:Str)(d:Bool)(e f:Int)(g:List Token)(i:List Str)(j:Int->Option (Bool×Int×Int×Bool×Int×Int×(List Token)×(List Str))):Int->Option (Bool×Int×Int×Bool×Int×Int×(List Token)×(List Str)):=λa=>
 (Q0e (decide (a<(b.length:Int))) (sidx b a)).bind λk=>
 (bif (decide (a<(b.length:Int))&&!decide (k=10))then
  j (IntKind.wrap .i64 (a+1))
 else
  some (true,a,(-1),d,e,f,g,i))
def Z3x(e:Str)(f g:Int)(i:Bool)(j k:Int)(b:List Token)(d:List Str)(l:Int->Option (Bool×Int×Int×Bool×Int×Int×(List Token)×(List Str))):Int->Option (Bool×Int×Int×Bool×Int×Int×(List Token)×(List Str)):=λa=>
 (sidx e a).bind λm=>
 (bif !decide (m=91)then
  l (IntKind.wrap .i64 (a+1))
 else
  (F53 f g i j k 47 a b d).bind λ(n,o,p,q,r)=>
  some (true,n,o,p,q,r,b,d))
def Q6e(b:Str)(d:Int)(e:List Str):((List Token)×Int×Int×Bool×Int×Int)->Option (Bool×Int×Int×Bool×Int×Int×(List Token)×(List Str)):=λ(f,a,g,i,j,k)=>
 (Q0m b a d).bind λl=>
 (F89 a g i j k (Token.mk 2 a l []) f e).bind λ(m,r,s,n,o,p)=>
 (sidx b m).bind λq=>
 some (true,d,(-1),decide (q=36),n,o,p,e)
def F52(d:Str)(a j:Int)(e:Bool)(g i:Int)(f:List Token)(b:List Str):Option (Bool×Int×Int×Bool×Int×Int×(List Token)×(List Str)):=
 (bif e then
  (F87 d a j e g i f b).bind λ(p,q,r,s,t,u)=>
  some (true,p,q,r,s,t,u,b)
 else
  (F88 d a).bind λn=>
  (bif decide (0<n)then
   some (true,IntKind.wrap .i64 (a+n),(-1),e,g,i,f,b)
  else
   (sidx d a).bind λl=>
   (bif decide (l=35)then
    iter (Z3y d e g i f b) BIG a
   else
    (bif decide (l=10)then
     (F89 a j e g i (Token.mk 3 a [10] []) f b).bind λ(w,aq,x,y,z,o)=>
     (F90 d (IntKind.wrap .i64 (w+1)) (-1) x y z o b).bind λ(A,C,D,E,F)=>
     some (false,A,C,D,E,F,o,b)
    else
     (Q0e (decide (IntKind.wrap .i64 (a+2)<=(d.length:Int))) (Q0m d a (IntKind.wrap .i64 (a+2)))).bind λH=>
     (bif (decide (IntKind.wrap .i64 (a+2)<=(d.length:Int))&&decide (H=[60,60]))then
      (F91 d a j e g i f b).bind λ(I,J,K,L,M,N,O)=>
      some (true,I,J,K,L,M,N,O)
     else
      (F92 d a).bind λm=>
      (bif decide (m<0)then
       iter (Z3x d a j e g i f b) BIG (IntKind.wrap .i64 (a+1))
      else
       (bif decide (a<m)then
        (bif (decide (l=36)||decide (l=96))then
         (F93 a j e g i f b).bind λ(P,Q,S,T,U,V)=>
         Q6e d m b (V,P,Q,S,T,U)
        else
         Q6e d m b (f,a,j,e,g,i))
       else
        (F94 d a).bind λk=>
        (bif !k.ok_ then
         (F53 a j e g i 48 k.to_ f b).bind λ(W,X,Y,aa,ac)=>
         some (true,W,X,Y,aa,ac,f,b)
        else
         (F93 a j e g i f b).bind λ(ad,ae,af,ag,ah,aj)=>
         (F89 ad ae af ag ah (Token.mk 1 a k.text_ k.quoted_) aj b).bind λ(ar,au,ak,al,am,ao)=>
         some (true,k.to_,k.to_,ak,al,am,ao,b)))))))))
def S52:Spec:=mkS 52 (un8 F52) (λ(a,b,c,d,e,f,g,h)=>([as_ a,.agg [ai b,.vec 0 (List.length g),ai c,ab d,.vec 1 (List.length h),ai e,ai f]],[rTo g,rSt h])) (λ(a,b,c,d,e,f,g,h) (i,j,k,l,m,n,o,p)=>.ret (bif i then[.agg [ai j,.vec 0 (List.length o),ai k,ab l,.vec 1 (List.length p),ai m,ai n]]else[.agg [ai j,.vec 0 (List.length o),ai k,ab l,.nils,ai m,ai n]]) (bif i then[rTo o,rSt p]else[rTo o,rSt p]))
def Z7g(b:List Token):(Int×Int×Bool×Int×Int)->Option ((List Token)×Int×Int):=λ(e,f,g,a,d)=>
 (bif !decide (a=0)then
  some ([],d,a)
 else
  some (b,0,0))
def Z7h(b:List Str)(j:Str)(a:List Token):(Int×Int×Bool×Int×Int)->Option ((List Token)×Int×Int):=λ(d,e,f,g,i)=>
 (bif decide (0<(b.length:Int))then
  (F53 d e f g i 3 (j.length:Int) a b).bind λ(k,l,m,n,o)=>
  Z7g a (k,l,m,n,o)
 else
  Z7g a (d,e,f,g,i))
def Q2m(b:Str)(k:(Int×Int×Bool×Int×Int×(List Token)×(List Str))->Option ((List Token)×Int×Int)):(Int×Int×Bool×Int×Int×(List Token)×(List Str))->Option ((List Token)×Int×Int):=λ(a,i,d,e,j,f,g)=>
 (bif (decide (e=0)&&decide (a<(b.length:Int)))then
  (F52 b a i d e j f g).bind λ(r,l,m,n,o,p,q,s)=>
  (bif r then
   k (l,m,n,o,p,q,s)
  else
   k (l,m,n,o,p,q,([]:List Str)))
 else
  (bif d then
   (F53 a i d e j 47 a f g).bind λ(t,u,w,x,y)=>
   Z7h g b f (t,u,w,x,y)
  else
   Z7h g b f (a,i,d,e,j)))
def F22(a:Str):Option ((List Token)×Int×Int):=
 (bif decide (65536<(a.length:Int))then
  some ([],0,4)
 else
  iter (Q2m a) BIG (0,(-1),false,0,0,([]:List Token),([]:List Str)))
def S22:=SQ6 22 F22
def Z7f(d:Int)(t2:List Token)(i:Str)(j:(Int×Int×(List Str))->Option (List Str))(e:(Int×Int×(List Str))->Option (List Str)):(Int×Int×(List Str))->Option (List Str):=λ(f,a,b)=>
 (bif decide (a<d)then
  (lidx t2 a).bind λg=>
  (bif decide (g.kind_=4)then
   (F54 i f g.text_).bind λ(k,l,m)=>
   (lidx b a).bind λn=>
   e (l,IntKind.wrap .i64 (a+1),List.set b (Int.toNat a) k)
  else
   e (f,IntKind.wrap .i64 (a+1),b))
 else
  j (d,IntKind.wrap .i64 (d+1),b))
def Z0e(t2:List Token)(g:Str)(d:(Int×Int×(List Str))->Option (List Str)):(Int×Int×(List Str))->Option (List Str):=λ(e,a,b)=>
 (bif decide (a<(t2.length:Int))then
  (lidx t2 a).bind λf=>
  (bif !decide (f.kind_=3)then
   d (e,IntKind.wrap .i64 (a+1),b)
  else
   iter (Z7f a t2 g d) BIG (IntKind.wrap .i64 (f.at_+1),e,b))
 else
  some b)
def F23(a:Str)(t2:List Token):Option (List Str):=
 (mkO 16 (t2.length:Int)).bind λb=>
 iter (Z0e t2 a) BIG (0,0,List.replicate (Int.toNat (t2.length:Int)) ([]:Str))
def S23:=SQ7 23 F23
def F59(d:Str)(a:List Token)(f:List Str)(b g i:Int):Option Token:=
 (bif decide (b<(a.length:Int))then
  (lidx a b).bind λe=>
  some e
 else
  some (Token.mk 0 (d.length:Int) [] []))
def S59:Spec:=mkS 59 (un6 F59) (λ(a,b,c,d,e,f)=>([.ref 0 0],[V27 a b c d e f])) (λ(a,b,c,d,e,f) g=>.ret [.pv (PV.agg [.int .i64 g.kind_,.int .i64 g.at_,.str g.text_,.str g.quoted_])] [V27 a b c d e f])
def F58(b d:Str)(e:List Token)(f:List Str)(g i j:Int):Option Bool:=
 (F59 d e f g i j).bind λa=>
 some (decide (a.kind_=2)&&decide (a.text_=b))
def SQ23(n:FuncId)(F:Str->Str->(List Token)->(List Str)->Int->Int->Int->Option (Bool)):Spec:=mkS n (un7 F) (λ(a,b,c,d,e,f,g)=>([.ref 0 0,as_ a],[V27 b c d e f g])) (λ(a,b,c,d,e,f,g) h=>.ret [ab h] [V27 b c d e f g])
def S58:=SQ23 58 F58
def Z7b(b:Str)(d:List Token)(e:List Str)(f g:Int)(i:Int->Option Int):Int->Option Int:=λa=>
 (F59 b d e a f g).bind λj=>
 (bif decide (j.kind_=3)then
  i (IntKind.wrap .i64 (a+1))
 else
  (F58 [59] b d e a f g).bind λk=>
  (bif k then
   i (IntKind.wrap .i64 (a+1))
  else
   some a))
def F55(a:Str)(b:List Token)(d:List Str)(e f g:Int):Option Int:=
 iter (Z7b a b d f g) BIG e
def SQ24(n:FuncId)(F:Str->(List Token)->(List Str)->Int->Int->Int->Option (Int)):Spec:=mkS n (un6 F) (λ(a,b,c,d,e,f)=>([.ref 0 0],[V27 a b c d e f])) (λ(a,b,c,d,e,f) g=>.ret [] [V27 a b c g e f])
def S55:=SQ24 55 F55
def J5z(a:Str)(b:Int->Option Bool):Int->Option Bool:=λi3=>
 (bif decide (i3<(a.length:Int))then
  (sidx a i3).bind λd=>
  (bif decide (d=49)then
   some true
  else
   b (IntKind.wrap .i64 (i3+1)))
 else
  some false)
def F171(a:Str):Option Bool:=
 iter (J5z a) BIG 0
def S171:=SQ3 171 F171
def F140(b d:Str)(e:List Token)(f:List Str)(g i j:Int):Option Bool:=
 (F59 d e f g i j).bind λa=>
 (Q0e (decide (a.kind_=1)&&decide (a.text_=b)) (F171 a.quoted_)).bind λk=>
 some ((decide (a.kind_=1)&&decide (a.text_=b))&&!k)
def S140:=SQ23 140 F140
def J5y(b:Str)(d:Int->Option Bool):Int->Option Bool:=λi3=>
 (bif decide (i3<(b.length:Int))then
  (sidx b i3).bind λa=>
  (bif !(((((decide (97<=a)&&decide (a<=122))||(decide (65<=a)&&decide (a<=90)))||(decide (48<=a)&&decide (a<=57)))||decide (a=95))||decide (a=42))then
   some false
  else
   d (IntKind.wrap .i64 (i3+1)))
 else
  some (!decide (b=[])))
def F172(a:Str):Option Bool:=
 iter (J5y a) BIG 0
def S172:=SQ3 172 F172
def F141(g:Str)(b:List Token)(i:List Str)(d j k:Int):Option Bool:=
 (F59 g b i d j k).bind λa=>
 (Q0e (decide (a.kind_=1)) (F171 a.quoted_)).bind λe=>
 (Q0e (!(!decide (a.kind_=1)||e)) (F172 a.text_)).bind λl=>
 (bif (((!decide (a.kind_=1)||e)||!l)||decide ((b.length:Int)<=IntKind.wrap .i64 (d+1)))then
  some false
 else
  (lidx b (IntKind.wrap .i64 (d+1))).bind λf=>
  some (decide (f.kind_=2)&&decide (f.text_=[61])))
def SQ25(n:FuncId)(F:Str->(List Token)->(List Str)->Int->Int->Int->Option (Bool)):Spec:=mkS n (un6 F) (λ(a,b,c,d,e,f)=>([.ref 0 0],[V27 a b c d e f])) (λ(a,b,c,d,e,f) g=>.ret [ab g] [V27 a b c d e f])
def S141:=SQ25 141 F141
def F95(a:Str)(b:List Token)(d:List Str)(e f g:Int):Option Bool:=
 (F140 [99,97,115,101] a b d e f g).bind λi=>
 (bif i then
  (F141 a b d e f g).bind λj=>
  some (!j)
 else
  some false)
def S95:=SQ25 95 F95
def F56(d e:Str)(a:List Token)(f:List Str)(b g i:Int):Option Bool:=
 (bif decide (d=[])then
  some (decide ((a.length:Int)<=b))
 else
  (bif decide (d=[99,97,115,101])then
   (F95 e a f b g i).bind λj=>
   (bif j then
    some true
   else
    (F58 [125] e a f b g i).bind λk=>
    some k)
  else
   (F58 d e a f b g i).bind λl=>
   some l))
def S56:=SQ23 56 F56
def Z1w(b:Str)(d:List Token)(e:List Str)(f g:Int)(i:Int->Option Int):Int->Option Int:=λa=>
 (F59 b d e a f g).bind λj=>
 (bif decide (j.kind_=3)then
  i (IntKind.wrap .i64 (a+1))
 else
  some a)
def F97(a:Str)(b:List Token)(d:List Str)(e f g:Int):Option Int:=
 iter (Z1w a b d f g) BIG e
def S97:=SQ24 97 F97
def Q6y(g:Str)(i:List Token)(j:List Str)(k:Y3)(f:Cmd)(l:(Int×Int×Int×(List Cmd))->Option (Cmd×Int×Int×Int)):(Int×Int×Int×(List Cmd))->Option (Cmd×Int×Int×Int):=λ(d,a,b,e)=>
 (bif decide (a=0)then
  (F58 [124] g i j d a b).bind λm=>
  (bif m then
   (F97 g i j (IntKind.wrap .i64 (d+1)) a b).bind λn=>
   (k g i j n a b).bind λ(o,p,q,r)=>
   (appO 104 e [o]).bind λs=>
   l (p,q,r,s)
  else
   (bif decide ((e.length:Int)=1)then
    some (f,d,a,b)
   else
    some (Cmd.mk 3 f.at_ [] [] [] e,d,a,b)))
 else
  (bif decide ((e.length:Int)=1)then
   some (f,d,a,b)
  else
   some (Cmd.mk 3 f.at_ [] [] [] e,d,a,b)))
def F96(j:Y3)(f:Str)(g:List Token)(i:List Str)(k l m:Int):Option (Cmd×Int×Int×Int):=
 (j f g i k l m).bind λ(a,e,b,d)=>
 (bif decide (b=0)then
  (F58 [124] f g i e b d).bind λn=>
  (bif n then
   (F97 f g i (IntKind.wrap .i64 (e+1)) b d).bind λo=>
   (j f g i o b d).bind λ(p,q,r,s)=>
   (appO 104 [a] [p]).bind λt=>
   iter (Q6y f g i j a) BIG (q,r,s,t)
  else
   (bif decide (([a].length:Int)=1)then
    some (a,e,b,d)
   else
    some (Cmd.mk 3 a.at_ [] [] [] [a],e,b,d)))
 else
  (bif decide (([a].length:Int)=1)then
   some (a,e,b,d)
  else
   some (Cmd.mk 3 a.at_ [] [] [] [a],e,b,d)))
def SQ26(n:FuncId)(F:Str->(List Token)->(List Str)->Int->Int->Int->Option (Cmd×Int×Int×Int)):Spec:=mkS n (un6 F) (λ(a,b,c,d,e,f)=>([.ref 0 0],[V27 a b c d e f])) (λ(a,b,c,d,e,f) (g,h,i,j)=>.ret [.pv (PV.agg [.int .i64 g.kind_,.int .i64 g.at_,.str g.name_,.slice (List.map Word.pv g.words_),.slice (List.map Redir.pv g.redirs_),.slice (List.map Cmd.pv g.kids_)])] [V27 a b c h i j])
def S96(a:Y3):=SQ26 96 (F96 a)
def Z7a(a:Str)(b:List Token)(d:List Str)(g e f:Int)(i:Y3)(j:(Int×Int×Int×Int×Str×(List Word)×(List Redir)×(List Cmd))->Option (Cmd×Int×Int×Int))(k:Int)(l:Cmd)(m:Str)(n:List Word)(o:List Redir)(p:List Cmd):Int->Option (Cmd×Int×Int×Int):=λq=>
 (F97 a b d (IntKind.wrap .i64 (g+1)) e f).bind λr=>
 (F96 i a b d r e f).bind λ(s,t,u,w)=>
 j (t,u,w,q,[],([]:List Word),([]:List Redir),[Cmd.mk k l.at_ m n o p,s])
def Q7y(e:Str)(f:List Token)(g:List Str)(o:Y3)(i:Cmd)(p:(Int×Int×Int×Int×Str×(List Word)×(List Redir)×(List Cmd))->Option (Cmd×Int×Int×Int)):(Int×Int×Int×Int×Str×(List Word)×(List Redir)×(List Cmd))->Option (Cmd×Int×Int×Int):=λ(d,a,b,j,k,l,m,n)=>
 (bif decide (a=0)then
  (F58 [38,38] e f g d a b).bind λr=>
  (bif r then
   (F58 [124,124] e f g d a b).bind λs=>
   (bif s then
    Z7a e f g d a b o p j i k l m n 6
   else
    Z7a e f g d a b o p j i k l m n 5)
  else
   (F58 [124,124] e f g d a b).bind λq=>
   (bif q then
    (F97 e f g (IntKind.wrap .i64 (d+1)) a b).bind λt=>
    (F96 o e f g t a b).bind λ(u,w,x,y)=>
    p (w,x,y,(bif q then 6 else 5),[],([]:List Word),([]:List Redir),[Cmd.mk j i.at_ k l m n,u])
   else
    some (Cmd.mk j i.at_ k l m n,d,a,b)))
 else
  some (Cmd.mk j i.at_ k l m n,d,a,b))
def F57(b:Y3)(d:Str)(e:List Token)(f:List Str)(g i j:Int):Option (Cmd×Int×Int×Int):=
 (F96 b d e f g i j).bind λ(a,k,l,m)=>
 iter (Q7y d e f b a) BIG (k,l,m,a.kind_,a.name_,a.words_,a.redirs_,a.kids_)
def S57(a:Y3):=SQ26 57 (F57 a)
def F60(d:Str)(e:List Token)(f:List Str)(g a b:Int):Option (Int×Int):=
 (bif decide (a=0)then
  (F59 d e f g 47 b).bind λi=>
  some (47,i.at_)
 else
  some (a,b))
def S60:Spec:=mkS 60 (un6 F60) (λ(a,b,c,d,e,f)=>([.ref 0 0],[V27 a b c d e f])) (λ(a,b,c,d,e,f) (g,h)=>.ret [] [V27 a b c d g h])
def Z0d(e:Str)(f:List Token)(g:List Str)(a b d:Int)(i:(Int×Int×Int×(List Cmd))->Option ((List Cmd)×Int×Int×Int))(j:List Cmd):Bool->Option ((List Cmd)×Int×Int×Int):=λk=>
 (F59 e f g a b d).bind λl=>
 (bif !decide (l.kind_=3)then
  (F58 [59] e f g a b d).bind λm=>
  (bif (!m&&!k)then
   (F60 e f g a b d).bind λ(n,o)=>
   i (a,n,o,j)
  else
   i (a,b,d,j))
 else
  i (a,b,d,j))
def Q2g(a:Str)(b:List Token)(d:List Str)(k:Str)(r:Y3)(l:(Int×Int×Int×(List Cmd))->Option ((List Cmd)×Int×Int×Int)):(Int×Int×Int×(List Cmd))->Option ((List Cmd)×Int×Int×Int):=λ(p,e,j,m)=>
 (bif decide (e=0)then
  (F55 a b d p e j).bind λn=>
  (F56 k a b d n e j).bind λs=>
  (bif s then
   some (m,n,e,j)
  else
   (F57 r a b d n e j).bind λ(o,f,g,i)=>
   (F58 [38] a b d f g i).bind λt=>
   (bif t then
    (appO 104 m [Cmd.mk 14 o.at_ [] [] [] [o]]).bind λu=>
    l (IntKind.wrap .i64 (f+1),g,i,u)
   else
    (appO 104 m [o]).bind λq=>
    (F56 k a b d f g i).bind λw=>
    (bif decide (k=[99,97,115,101])then
     (F58 [125] a b d f g i).bind λx=>
     Z0d a b d f g i l q x
    else
     Z0d a b d f g i l q w)))
 else
  some ([],p,e,j))
def F24(a:Y3)(b d:Str)(e:List Token)(f:List Str)(g i j:Int):Option ((List Cmd)×Int×Int×Int):=
 iter (Q2g d e f b a) BIG (g,i,j,([]:List Cmd))
def S24(l:Y3):Spec:=mkS 24 (un7 (F24 l)) (λ(a,b,c,d,e,f,g)=>([.ref 0 0,as_ a],[V27 b c d e f g])) (λ(a,b,c,d,e,f,g) (h,i,j,k)=>.ret [.pv (.slice (List.map Cmd.pv h))] [V27 b c d i j k])
def F173(f:Str)(g:List Token)(i:List Str)(b d e:Int):Option (Str×Int×Int×Int):=
 (F59 f g i b d e).bind λa=>
 (Q0e (decide (a.kind_=1)) (F171 a.quoted_)).bind λj=>
 (Q0e (!(!decide (a.kind_=1)||j)) (F172 a.text_)).bind λk=>
 (bif ((!decide (a.kind_=1)||j)||!k)then
  (F60 f g i b d e).bind λ(l,m)=>
  some (a.text_,IntKind.wrap .i64 (b+1),l,m)
 else
  some (a.text_,IntKind.wrap .i64 (b+1),d,e))
def S173:Spec:=mkS 173 (un6 F173) (λ(a,b,c,d,e,f)=>([.ref 0 0],[V27 a b c d e f])) (λ(a,b,c,d,e,f) (g,h,i,j)=>.ret [as_ g] [V27 a b c h i j])
def F174(i e:Str)(f:List Token)(g:List Str)(a b d:Int):Option (Int×Int×Int):=
 (F58 i e f g a b d).bind λj=>
 (bif !j then
  (F60 e f g a b d).bind λ(k,l)=>
  some (IntKind.wrap .i64 (a+1),k,l)
 else
  some (IntKind.wrap .i64 (a+1),b,d))
def S174:Spec:=mkS 174 (un7 F174) (λ(a,b,c,d,e,f,g)=>([.ref 0 0,as_ a],[V27 b c d e f g])) (λ(a,b,c,d,e,f,g) (h,i,j)=>.ret [] [V27 b c d h i j])
def F203(a:Str)(b:List Token)(d:List Str)(e f g:Int):Option Bool:=
 (F59 a b d e f g).bind λi=>
 (bif decide (i.kind_=1)then
  some true
 else
  (F58 [36] a b d e f g).bind λj=>
  (bif j then
   some true
  else
   (F58 [36,35] a b d e f g).bind λk=>
   (bif k then
    some true
   else
    (F58 [40] a b d e f g).bind λl=>
    (bif l then
     some true
    else
     (F58 [96] a b d e f g).bind λm=>
     some m))))
def S203:=SQ25 203 F203
def F178(d:Str)(e:List Token)(f:List Str)(g i j:Int):Option Bool:=
 (F59 d e f g i j).bind λa=>
 (Q0e (!(decide (a.kind_=4))&&decide (a.kind_=2)) (sidx a.text_ 0)).bind λb=>
 some (decide (a.kind_=4)||(decide (a.kind_=2)&&(decide (b=60)||decide (b=62))))
def S178:=SQ25 178 F178
def F176(a:Str)(b:List Token)(d:List Str)(e f g:Int):Option Bool:=
 (F58 [33] a b d e f g).bind λi=>
 (bif i then
  some true
 else
  (F58 [64] a b d e f g).bind λj=>
  (bif j then
   some true
  else
   (F58 [123] a b d e f g).bind λk=>
   (bif k then
    some true
   else
    (F203 a b d e f g).bind λl=>
    (bif l then
     some true
    else
     (F178 a b d e f g).bind λm=>
     some m))))
def S176:=SQ25 176 F176
def F177(j:Y3)(k e a:Str)(b:List Token)(d:List Str)(f g i:Int):Option (Int×Int×Str×(List Cmd)×Int×Int×Int):=
 (F59 a b d f g i).bind λl=>
 (F174 k a b d f g i).bind λ(m,n,o)=>
 (F24 j e a b d m n o).bind λ(p,q,r,s)=>
 (F174 e a b d q r s).bind λ(t,u,w)=>
 some (12,l.at_,[],p,t,u,w)
def S177(p:Y3):Spec:=mkS 177 (un8 (F177 p)) (λ(a,b,c,d,e,f,g,h)=>([.ref 0 0,as_ a,as_ b],[V27 c d e f g h])) (λ(a,b,c,d,e,f,g,h) (i,j,k,l,m,n,o)=>.ret [.agg [ai i,ai j,as_ k,.nils,.nils,.pv (.slice (List.map Cmd.pv l))]] [V27 c d e m n o])
def Z2x(b:Int)(d:(Str×Int)->Option Str):(Str×Int)->Option Str:=λ(a,i4)=>
 (bif decide (i4<b)then
  (catO a [48]).bind λe=>
  d (e,IntKind.wrap .i64 (i4+1))
 else
  some a)
def F186(a:Int):Option Str:=
 iter (Z2x a) BIG ([],0)
def S186:Spec:=mkS 186 F186 (λa=>([ai a],[])) (λa b=>.ret [as_ b] [])
def Q5j(b:Str)(f:(Int×Int)->Option (Int×Int)):(Int×Int)->Option (Int×Int):=λ(a,d)=>
 (Q0e (decide (a<(b.length:Int))) (sidx b a)).bind λe=>
 (bif ((decide (a<(b.length:Int))&&decide (48<=e))&&decide (e<=57))then
  (sidx b a).bind λg=>
  f (IntKind.wrap .i64 (a+1),IntKind.wrap .i64 ((IntKind.wrap .i64 (d * 10))+(IntKind.wrap .i64 (IntKind.wrap .u8 (g-48)))))
 else
  some (d,a))
def F204(a:Str)(b:Int):Option (Int×Int):=
 iter (Q5j a) BIG (b,0)
def S204:Spec:=mkS 204 (un2 F204) (λ(a,b)=>([as_ a,ai b],[])) (λ(a,b) (c,d)=>.ret [ai c,ai d] [])
def Z2y(a:Y2)(b:Str)(d:List Token)(e:List Str)(f g i j:Int):Int->Option (Redir×Int×Int×Int):=λk=>
 (a b d e (IntKind.wrap .i64 (f+1)) g i).bind λ(l,m,n,o)=>
 some (Redir.mk j k 0 l false,m,n,o)
def Z2z(a:Token)(b d e:Int)(i:Y2)(j:Str)(k:List Token)(l:List Str)(o:Int):(Int×Int)->Option (Redir×Int×Int×Int):=λ(m,n)=>
 (bif decide (m<(a.text_.length:Int))then
  (F204 a.text_ (IntKind.wrap .i64 (m+1))).bind λ(f,g)=>
  (sidx a.text_ g).bind λp=>
  (bif decide (p=61)then
   (sidx a.text_ (IntKind.wrap .i64 (g+1))).bind λc46=>
   (bif !decide (c46=93)then
    (F204 a.text_ (IntKind.wrap .i64 (g+1))).bind λ(q,r)=>
    some (Redir.mk 5 f q (Word.mk 0 [] [] [] []) false,IntKind.wrap .i64 (b+1),d,e)
   else
    some (Redir.mk 6 f 0 (Word.mk 0 [] [] [] []) false,IntKind.wrap .i64 (b+1),d,e))
  else
   Z2y i j k l b d e n f)
 else
  Z2y i j k l b d e n o)
def Z0s(a:Token)(b d e:Int)(f:Y2)(g:Str)(i:List Token)(j:List Str):(Int×Int)->Option (Redir×Int×Int×Int):=λ(l,k)=>
 (Q0e (decide (1<(a.text_.length:Int))) (sidx a.text_ 1)).bind λm=>
 (bif (decide (1<(a.text_.length:Int))&&decide (m=62))then
  Z2z a b d e f g i j k (2,3)
 else
  Z2z a b d e f g i j k (1,l))
def F179(j:Y2)(g:Str)(i:List Token)(d:List Str)(a e f:Int):Option (Redir×Int×Int×Int):=
 (F59 g i d a e f).bind λb=>
 (bif decide (b.kind_=4)then
  (lidx d a).bind λk=>
  (F186 (k.length:Int)).bind λl=>
  (F171 b.quoted_).bind λm=>
  some (Redir.mk 4 0 0 (Word.mk 1 k l [] []) m,IntKind.wrap .i64 (a+1),e,f)
 else
  (sidx b.text_ 0).bind λn=>
  (bif decide (n=62)then
   Z0s b a e f j g i d (2,1)
  else
   Z0s b a e f j g i d (1,0)))
def S179(k:Y2):Spec:=mkS 179 (un6 (F179 k)) (λ(a,b,c,d,e,f)=>([.ref 0 0],[V27 a b c d e f])) (λ(a,b,c,d,e,f) (g,h,i,j)=>.ret [.pv (PV.agg [.int .i64 g.kind_,.int .i64 g.fd_,.int .i64 g.from_,.int .i64 g.word_.kind_,.str g.word_.text_,.str g.word_.quoted_,.slice (List.map Word.pv g.word_.words_),.slice (List.map Cmd.pv g.word_.cmd_),.bool g.raw_])] [V27 a b c h i j])
def Q3o(f:Str)(g:List Token)(i:List Str)(j:Y2)(k:(Int×Int×Int×(List Word))->Option ((List Word)×Int×Int×Int)):(Int×Int×Int×(List Word))->Option ((List Word)×Int×Int×Int):=λ(b,a,d,e)=>
 (bif decide (a=0)then
  (F203 f g i b a d).bind λl=>
  (bif l then
   (j f g i b a d).bind λ(m,n,o,p)=>
   (appO 88 e [m]).bind λq=>
   k (n,o,p,q)
  else
   some (e,b,a,d))
 else
  some (e,b,a,d))
def F206(i:Y2)(b:Str)(d:List Token)(e:List Str)(k l m:Int):Option ((List Word)×Int×Int×Int):=
 (i b d e k l m).bind λ(j,f,a,g)=>
 (bif decide (a=0)then
  (F203 b d e f a g).bind λn=>
  (bif n then
   (i b d e f a g).bind λ(o,p,q,r)=>
   (appO 88 [j] [o]).bind λs=>
   iter (Q3o b d e i) BIG (p,q,r,s)
  else
   some ([j],f,a,g))
 else
  some ([j],f,a,g))
def SQ27(n:FuncId)(F:Str->(List Token)->(List Str)->Int->Int->Int->Option ((List Word)×Int×Int×Int)):Spec:=mkS n (un6 F) (λ(a,b,c,d,e,f)=>([.ref 0 0],[V27 a b c d e f])) (λ(a,b,c,d,e,f) (g,h,i,j)=>.ret [.pv (.slice (List.map Word.pv g))] [V27 a b c h i j])
def S206(a:Y2):=SQ27 206 (F206 a)
def Q6l(d:Str)(e:List Token)(f:List Str)(k:Y2)(l:(Int×Int×Int×(List Word))->Option ((List Word)×Int×Int×Int)):(Int×Int×Int×(List Word))->Option ((List Word)×Int×Int×Int):=λ(i,a,b,j)=>
 (bif decide (a=0)then
  (F97 d e f i a b).bind λg=>
  (F58 [41] d e f g a b).bind λm=>
  (bif m then
   some (j,IntKind.wrap .i64 (g+1),a,b)
  else
   (k d e f g a b).bind λ(n,o,p,q)=>
   (appO 88 j [n]).bind λr=>
   l (o,p,q,r))
 else
  some ([],i,a,b))
def F205(a:Y2)(b:Str)(d:List Token)(e:List Str)(f g i:Int):Option ((List Word)×Int×Int×Int):=
 iter (Q6l b d e a) BIG (f,g,i,([]:List Word))
def S205(a:Y2):=SQ27 205 (F205 a)
def Q4i(a:Str)(b:List Token)(d:List Str)(g:Y3)(i:Int)(j:Str)(k:List Redir):(Int×Int×Int×Int×(List Cmd))->Option (Cmd×Int×Int×Int):=λ(l,e,f,m,n)=>
 (F97 a b d l e f).bind λo=>
 (g a b d o e f).bind λ(p,q,r,s)=>
 (appO 104 n [p]).bind λt=>
 some (Cmd.mk m i j [] k t,q,r,s)
def Q2n(a:Y3)(b:Str)(d:List Token)(e:List Str)(f:Int)(g:List Cmd)(i:Token)(j:List Word)(k:(Int×Int×Int×(List Cmd))->Option (Cmd×Int×Int×Int)):(Int×Int)->Option (Cmd×Int×Int×Int):=λ(l,m)=>
 (F24 a [99,97,115,101] b d e f l m).bind λ(n,o,p,q)=>
 (appO 104 g [Cmd.mk 18 i.at_ [] j [] n]).bind λr=>
 k (o,p,q,r)
def Q1w(a:Str)(b:List Token)(d:List Str)(u:Y2)(k:Y3)(q:Int)(r:Str)(s:Word)(t:List Redir)(l:(Int×Int×Int×(List Cmd))->Option (Cmd×Int×Int×Int)):(Int×Int×Int×(List Cmd))->Option (Cmd×Int×Int×Int):=λ(m,j,n,i)=>
 (bif decide (j=0)then
  (F140 [99,97,115,101] a b d m j n).bind λw=>
  (bif w then
   (F59 a b d m j n).bind λo=>
   (F206 u a b d (IntKind.wrap .i64 (m+1)) j n).bind λ(p,e,f,g)=>
   (bif decide (f=0)then
    (F59 a b d e f g).bind λx=>
    (bif !decide (x.kind_=3)then
     (F58 [59] a b d e f g).bind λy=>
     (bif !y then
      (F56 [99,97,115,101] a b d e f g).bind λz=>
      (bif !z then
       (F60 a b d e f g).bind λ(A,C)=>
       Q2n k a b d e i o p l (A,C)
      else
       Q2n k a b d e i o p l (f,g))
     else
      Q2n k a b d e i o p l (f,g))
    else
     Q2n k a b d e i o p l (f,g))
   else
    Q2n k a b d e i o p l (f,g))
  else
   (F174 [125] a b d m j n).bind λ(D,E,F)=>
   some (Cmd.mk 17 q r [s] t i,D,E,F))
 else
  (F174 [125] a b d m j n).bind λ(H,I,J)=>
  some (Cmd.mk 17 q r [s] t i,H,I,J))
def F180(g:Y3)(n:Y2)(aM e:Int)(m a:Str)(b:List Token)(d:List Str)(i j k:Int)(f:List Redir):Option (Cmd×Int×Int×Int):=
 (F59 a b d i j k).bind λl=>
 (bif (bif decide (l.text_=[105,102])then decide (l.text_=[105,102])else decide (l.text_=[119,104,105,108,101]))then
  (bif decide (l.text_=[105,102])then
   (F140 [110,111,116] a b d (IntKind.wrap .i64 (i+1)) j k).bind λJ=>
   (bif J then
    Q4i a b d g e m f (IntKind.wrap .i64 ((IntKind.wrap .i64 (i+1))+1),j,k,9,([]:List Cmd))
   else
    (F177 g [40] [41] a b d (IntKind.wrap .i64 (i+1)) j k).bind λ(K,L,M,N,O,P,Q)=>
    (appO 104 ([]:List Cmd) [Cmd.mk K L M [] [] N]).bind λS=>
    Q4i a b d g e m f (O,P,Q,(bif decide (l.text_=[119,104,105,108,101])then 11 else 8),S))
  else
   (F177 g [40] [41] a b d (IntKind.wrap .i64 (i+1)) j k).bind λ(T,U,V,W,X,Y,aa)=>
   (appO 104 ([]:List Cmd) [Cmd.mk T U V [] [] W]).bind λac=>
   Q4i a b d g e m f (X,Y,aa,(bif decide (l.text_=[119,104,105,108,101])then 11 else 8),ac))
 else
  (bif decide (l.text_=[102,111,114])then
   (F174 [40] a b d (IntKind.wrap .i64 (i+1)) j k).bind λ(ad,ae,af)=>
   (F173 a b d ad ae af).bind λ(w,o,p,q)=>
   (F140 [105,110] a b d o p q).bind λag=>
   (bif ag then
    (F205 n a b d (IntKind.wrap .i64 (o+1)) p q).bind λ(ah,aj,x,y)=>
    (F97 a b d aj x y).bind λak=>
    (g a b d ak x y).bind λ(al,am,ao,aq)=>
    (appO 104 ([]:List Cmd) [al]).bind λar=>
    some (Cmd.mk 10 e w ah f ar,am,ao,aq)
   else
    (F174 [41] a b d o p q).bind λ(au,z,A)=>
    (F97 a b d au z A).bind λav=>
    (g a b d av z A).bind λ(aw,ax,ay,az)=>
    (appO 104 ([]:List Cmd) [aw]).bind λaA=>
    some (Cmd.mk 10 e w [Word.mk 2 [42] [] [] []] f aA,ax,ay,az))
  else
   (bif decide (l.text_=[115,119,105,116,99,104])then
    (n a b d (IntKind.wrap .i64 (i+1)) j k).bind λ(aB,aC,aD,aE)=>
    (F174 [123] a b d aC aD aE).bind λ(aF,C,D)=>
    (F55 a b d aF C D).bind λaG=>
    iter (Q1w a b d n g e m aB f) BIG (aG,C,D,([]:List Cmd))
   else
    (bif decide (l.text_=[102,110])then
     (F173 a b d (IntKind.wrap .i64 (i+1)) j k).bind λ(r,s,t,u)=>
     (F58 [123] a b d s t u).bind λaH=>
     (bif aH then
      (F177 g [123] [125] a b d s t u).bind λ(aN,aO,aP,E,F,H,I)=>
      (bif decide ((E.length:Int)=0)then
       some (Cmd.mk 15 e r [] f [Cmd.mk 12 0 [] [] [] []],F,H,I)
      else
       some (Cmd.mk 15 e r [] f E,F,H,I))
     else
      some (Cmd.mk 15 e r [] f ([]:List Cmd),s,t,u))
    else
     (F206 n a b d (IntKind.wrap .i64 (i+1)) j k).bind λ(aI,aJ,aK,aL)=>
     some (Cmd.mk 16 e m aI f ([]:List Cmd),aJ,aK,aL)))))
def S180(o:Y3)(p:Y2):Spec:=mkS 180 (un10 (F180 o p)) (λ(a,b,c,d,e,f,g,h,i,j)=>([.ref 0 0,.agg [ai a,ai b,as_ c,.nils,.vec 1 (List.length j),.nils]],[V27 d e f g h i,rRe j])) (λ(a,b,c,d,e,f,g,h,i,j) (k,l,m,n)=>.ret [.pv (PV.agg [.int .i64 k.kind_,.int .i64 k.at_,.str k.name_,.slice (List.map Word.pv k.words_),.slice (List.map Redir.pv k.redirs_),.slice (List.map Cmd.pv k.kids_)])] [V27 d e f l m n,rRe j])
def F187(a:Str):Option Bool:=
 some ((((((decide (a=[105,102])||decide (a=[119,104,105,108,101]))||decide (a=[102,111,114]))||decide (a=[115,119,105,116,99,104]))||decide (a=[99,97,115,101]))||decide (a=[102,110]))||decide (a=[126]))
def S187:=SQ3 187 F187
def Q1n(g:Str)(i:List Token)(j:List Str)(m:Y2)(n:Int)(o:Str)(k:(Int×Int×Int×(List Redir)×(List Word))->Option (Cmd×Int×Int×Int×(List Redir))):(Int×Int×Int×(List Redir)×(List Word))->Option (Cmd×Int×Int×Int×(List Redir)):=λ(a,d,e,b,f)=>
 (bif decide (d=0)then
  (F178 g i j a d e).bind λr=>
  (bif r then
   (F179 m g i j a d e).bind λ(s,t,u,w)=>
   (appO 120 b [s]).bind λx=>
   k (t,u,w,x,f)
  else
   (bif decide ((f.length:Int)=0)then
    (F59 g i j a d e).bind λl=>
    (Q0e (decide (l.kind_=1)) (F187 l.text_)).bind λq=>
    (Q0e (decide (l.kind_=1)&&q) (F171 l.quoted_)).bind λp=>
    (bif ((decide (l.kind_=1)&&q)&&!p)then
     (F60 g i j (bif decide ((b.length:Int)=0)then IntKind.wrap .i64 (a+1)else a) d e).bind λ(y,z)=>
     k ((bif decide ((b.length:Int)=0)then IntKind.wrap .i64 (a+1)else a),y,z,b,f)
    else
     (F203 g i j a d e).bind λA=>
     (bif A then
      (m g i j a d e).bind λ(C,D,E,F)=>
      (appO 88 f [C]).bind λH=>
      k (D,E,F,b,H)
     else
      (bif decide (IntKind.wrap .i64 ((f.length:Int)+(b.length:Int))=0)then
       (F60 g i j a d e).bind λ(I,J)=>
       k (a,I,J,b,f)
      else
       some (Cmd.mk 1 n o f b [],a,d,e,b))))
   else
    (F203 g i j a d e).bind λK=>
    (bif K then
     (m g i j a d e).bind λ(L,M,N,p)=>
     (appO 88 f [L]).bind λO=>
     k (M,N,p,b,O)
    else
     (bif decide (IntKind.wrap .i64 ((f.length:Int)+(b.length:Int))=0)then
      (F60 g i j a d e).bind λ(P,Q)=>
      k (a,P,Q,b,f)
     else
      some (Cmd.mk 1 n o f b [],a,d,e,b)))))
 else
  some (Cmd.mk 1 n o f b [],a,d,e,b))
def F181(a:Y2)(m b:Int)(d e:Str)(f:List Token)(g:List Str)(i j k:Int)(l:List Redir):Option (Cmd×Int×Int×Int×(List Redir)):=
 iter (Q1n e f g a b d) BIG (i,j,k,l,([]:List Word))
def S181(p:Y2):Spec:=mkS 181 (un10 (F181 p)) (λ(a,b,c,d,e,f,g,h,i,j)=>([.ref 0 0,.agg [ai a,ai b,as_ c,.nils,.vec 1 (List.length j),.nils]],[V27 d e f g h i,rRe j])) (λ(a,b,c,d,e,f,g,h,i,j) (k,l,m,n,o)=>.ret [.pv (PV.agg [.int .i64 k.kind_,.int .i64 k.at_,.str k.name_,.slice (List.map Word.pv k.words_),.slice (List.map Redir.pv k.redirs_),.slice (List.map Cmd.pv k.kids_)])] [V27 d e f l m n,rRe o])
def Z7n(a:Y3)(b:Str)(d:List Token)(e:List Str)(f g i:Int)(j:Token):Int->Option (Cmd×Int×Int×Int):=λk=>
 (a b d e (IntKind.wrap .i64 (f+1)) g i).bind λ(l,m,n,o)=>
 some (Cmd.mk k j.at_ [] [] ([]:List Redir) [l],m,n,o)
def Q5m(f:Str)(g:List Token)(i:List Str)(n:Y2)(j k:Int)(l:Str)(m:List Cmd)(o:(Int×Int×Int×(List Redir))->Option (Cmd×Int×Int×Int)):(Int×Int×Int×(List Redir))->Option (Cmd×Int×Int×Int):=λ(b,a,d,e)=>
 (bif decide (a=0)then
  (F178 f g i b a d).bind λp=>
  (bif p then
   (F179 n f g i b a d).bind λ(q,r,s,t)=>
   (appO 120 e [q]).bind λu=>
   o (r,s,t,u)
  else
   some (Cmd.mk j k l [] e m,b,a,d))
 else
  some (Cmd.mk j k l [] e m,b,a,d))
def F142(j:Y3)(k:Y2)(a:Str)(b:List Token)(d:List Str)(f e g:Int):Option (Cmd×Int×Int×Int):=
 (F59 a b d f e g).bind λi=>
 (bif !decide (e=0)then
  some (Cmd.mk 0 i.at_ [] [] ([]:List Redir) [],f,e,g)
 else
  (F141 a b d f e g).bind λs=>
  (bif s then
   (F173 a b d f e g).bind λ(o,t,u,w)=>
   (F174 [61] a b d t u w).bind λ(x,y,z)=>
   (k a b d x y z).bind λ(p,m,l,n)=>
   (bif decide (l=0)then
    (F176 a b d m l n).bind λA=>
    (bif A then
     (j a b d m l n).bind λ(C,D,E,F)=>
     some (Cmd.mk 2 i.at_ o [p] ([]:List Redir) [C],D,E,F)
    else
     some (Cmd.mk 2 i.at_ o [p] ([]:List Redir) [],m,l,n))
   else
    some (Cmd.mk 2 i.at_ o [p] ([]:List Redir) [],m,l,n))
  else
   (F58 [33] a b d f e g).bind λH=>
   (bif H then
    (F58 [64] a b d f e g).bind λq=>
    (bif q then
     Z7n j a b d f e g i 13
    else
     Z7n j a b d f e g i 7)
   else
    (F58 [64] a b d f e g).bind λr=>
    (bif r then
     (j a b d (IntKind.wrap .i64 (f+1)) e g).bind λ(I,J,q,K)=>
     some (Cmd.mk (bif r then 13 else 7) i.at_ [] [] ([]:List Redir) [I],J,q,K)
    else
     (F58 [123] a b d f e g).bind λL=>
     (bif L then
      (F177 j [123] [125] a b d f e g).bind λ(M,N,O,P,Q,S,T)=>
      iter (Q5m a b d k M N O P) BIG (Q,S,T,([]:List Redir))
     else
      (F140 [105,102] a b d f e g).bind λU=>
      (bif U then
       (F180 j k 0 i.at_ [] a b d f e g ([]:List Redir)).bind λ(V,W,X,Y)=>
       some (V,W,X,Y)
      else
       (F140 [119,104,105,108,101] a b d f e g).bind λaa=>
       (bif aa then
        (F180 j k 0 i.at_ [] a b d f e g ([]:List Redir)).bind λ(ac,ad,ae,af)=>
        some (ac,ad,ae,af)
       else
        (F140 [102,111,114] a b d f e g).bind λag=>
        (bif ag then
         (F180 j k 0 i.at_ [] a b d f e g ([]:List Redir)).bind λ(ah,aj,ak,al)=>
         some (ah,aj,ak,al)
        else
         (F140 [115,119,105,116,99,104] a b d f e g).bind λam=>
         (bif am then
          (F180 j k 0 i.at_ [] a b d f e g ([]:List Redir)).bind λ(ao,aq,ar,au)=>
          some (ao,aq,ar,au)
         else
          (F140 [102,110] a b d f e g).bind λav=>
          (bif av then
           (F180 j k 0 i.at_ [] a b d f e g ([]:List Redir)).bind λ(aw,ax,ay,az)=>
           some (aw,ax,ay,az)
          else
           (F140 [126] a b d f e g).bind λaA=>
           (bif aA then
            (F180 j k 0 i.at_ [] a b d f e g ([]:List Redir)).bind λ(aB,aC,aD,aE)=>
            some (aB,aC,aD,aE)
           else
            (F181 k 0 i.at_ [] a b d f e g ([]:List Redir)).bind λ(aF,aG,aH,aI,aJ)=>
            some (aF,aG,aH,aI))))))))))))
def S142:=SQ26 142
def Q5k(a:Y2)(b:Str)(d:List Token)(e:List Str)(f:Int)(g:Str):(Int×Int)->Option (Word×Int×Int×Int):=λ(i,j)=>
 (F205 a b d e f i j).bind λ(k,l,m,n)=>
 some (Word.mk 7 g [] k [],l,m,n)
def F202(q:Y3)(n:Y2)(a:Str)(b:List Token)(d:List Str)(e f g:Int):Option (Word×Int×Int×Int):=
 (F59 a b d e f g).bind λo=>
 (bif decide (o.kind_=1)then
  some (Word.mk 1 o.text_ o.quoted_ [] [],IntKind.wrap .i64 (e+1),f,g)
 else
  (F58 [36,35] a b d e f g).bind λr=>
  (bif r then
   (F173 a b d (IntKind.wrap .i64 (e+1)) f g).bind λ(s,t,u,w)=>
   some (Word.mk 3 s [] [] [],t,u,w)
  else
   (F58 [36] a b d e f g).bind λx=>
   (bif x then
    (F59 a b d (IntKind.wrap .i64 (e+1)) f g).bind λp=>
    (F173 a b d (IntKind.wrap .i64 (e+1)) f g).bind λ(l,k,i,j)=>
    (bif decide (i=0)then
     (F58 [40] a b d k i j).bind λy=>
     (bif y then
      (F59 a b d k i j).bind λz=>
      (bif decide (z.at_=IntKind.wrap .i64 (p.at_+(p.text_.length:Int)))then
       (F97 a b d (IntKind.wrap .i64 (k+1)) i j).bind λm=>
       (F58 [41] a b d m i j).bind λA=>
       (bif A then
        (F60 a b d m i j).bind λ(C,D)=>
        Q5k n a b d m l (C,D)
       else
        Q5k n a b d m l (i,j))
      else
       some (Word.mk 2 l [] [] [],k,i,j))
     else
      some (Word.mk 2 l [] [] [],k,i,j))
    else
     some (Word.mk 2 l [] [] [],k,i,j))
   else
    (F58 [40] a b d e f g).bind λE=>
    (bif E then
     (F205 n a b d (IntKind.wrap .i64 (e+1)) f g).bind λ(F,H,I,J)=>
     some (Word.mk 5 [] [] F [],H,I,J)
    else
     (F58 [96] a b d e f g).bind λK=>
     (bif K then
      (F177 q [123] [125] a b d (IntKind.wrap .i64 (e+1)) f g).bind λ(S,T,U,L,M,N,O)=>
      some (Word.mk 6 [] [] [] L,M,N,O)
     else
      (F60 a b d e f g).bind λ(P,Q)=>
      some (Word.mk 0 [] [] [] [],e,P,Q))))))
def SQ28(n:FuncId)(F:Str->(List Token)->(List Str)->Int->Int->Int->Option (Word×Int×Int×Int)):Spec:=mkS n (un6 F) (λ(a,b,c,d,e,f)=>([.ref 0 0],[V27 a b c d e f])) (λ(a,b,c,d,e,f) (g,h,i,j)=>.ret [.pv (PV.agg [.int .i64 g.kind_,.str g.text_,.str g.quoted_,.slice (List.map Word.pv g.words_),.slice (List.map Cmd.pv g.cmd_)])] [V27 a b c h i j])
def S202(a:Y3)(b:Y2):=SQ28 202 (F202 a b)
def Q5l(f:Str)(g:List Token)(i:List Str)(j:Y3)(k:Y2)(l:(Int×Int×Int×(List Word))->Option (Word×Int×Int×Int)):(Int×Int×Int×(List Word))->Option (Word×Int×Int×Int):=λ(d,a,e,b)=>
 (bif decide (a=0)then
  (F58 [94] f g i d a e).bind λm=>
  (bif m then
   (F202 j k f g i (IntKind.wrap .i64 (d+1)) a e).bind λ(n,o,p,q)=>
   (appO 88 b [n]).bind λr=>
   l (o,p,q,r)
  else
   (bif decide ((b.length:Int)=1)then
    (lidx b 0).bind λs=>
    some (s,d,a,e)
   else
    some (Word.mk 4 [] [] b [],d,a,e)))
 else
  (bif decide ((b.length:Int)=1)then
   (lidx b 0).bind λt=>
   some (t,d,a,e)
  else
   some (Word.mk 4 [] [] b [],d,a,e)))
def F175(j:Y3)(k:Y2)(f:Str)(g:List Token)(i:List Str)(l m n:Int):Option (Word×Int×Int×Int):=
 (F202 j k f g i l m n).bind λ(a,d,b,e)=>
 (bif decide (b=0)then
  (F58 [94] f g i d b e).bind λo=>
  (bif o then
   (F202 j k f g i (IntKind.wrap .i64 (d+1)) b e).bind λ(p,q,r,s)=>
   (appO 88 [a] [p]).bind λt=>
   iter (Q5l f g i j k) BIG (q,r,s,t)
  else
   (bif decide (([a].length:Int)=1)then
    some (a,d,b,e)
   else
    some (Word.mk 4 [] [] [a] [],d,b,e)))
 else
  (bif decide (([a].length:Int)=1)then
   some (a,d,b,e)
  else
   some (Word.mk 4 [] [] [a] [],d,b,e)))
def S175:=SQ28 175
mutual
def K142:Nat->Str->(List Token)->(List Str)->Int->Int->Int->Option (Cmd×Int×Int×Int)
 | 0=>λ_ _ _ _ _ _=>none
 | n+1=>F142 (K142 n) (K175 n)
def K175:Nat->Str->(List Token)->(List Str)->Int->Int->Int->Option (Word×Int×Int×Int)
 | 0=>λ_ _ _ _ _ _=>none
 | n+1=>F175 (K142 n) (K175 n)
end
def F34(a:Redir):Option (List Word):=
 (bif (decide (a.kind_=5)||decide (a.kind_=6))then
  some []
 else
  some [a.word_])
def S34:Spec:=mkS 34 F34 (λa=>([.pv (PV.agg [.int .i64 a.kind_,.int .i64 a.fd_,.int .i64 a.from_,.int .i64 a.word_.kind_,.str a.word_.text_,.str a.word_.quoted_,.slice (List.map Word.pv a.word_.words_),.slice (List.map Cmd.pv a.word_.cmd_),.bool a.raw_])],[])) (λa b=>.ret [.pv (.slice (List.map Word.pv b))] [])
def J8g(b:Cmd)(e:Y9)(f:(Int×Int)->Option Int)(i4:Int)(g:(Int×Int)->Option Int):(Int×Int)->Option Int:=λ(d,a)=>
 (bif decide (a<(b.redirs_.length:Int))then
  (lidx b.redirs_ a).bind λi=>
  (F34 i).bind λj=>
  (e j).bind λk=>
  g (IntKind.wrap .i64 (d+k),IntKind.wrap .i64 (a+1))
 else
  f (d,IntKind.wrap .i64 (i4+1)))
def Z9i(b:List Cmd)(d:Y9)(f:Y7)(g:(Int×Int)->Option Int):(Int×Int)->Option Int:=λ(e,i4)=>
 (bif decide (i4<(b.length:Int))then
  (lidx b i4).bind λa=>
  (d a.words_).bind λi=>
  (f a.kids_).bind λj=>
  iter (J8g a d g i4) BIG (IntKind.wrap .i64 ((IntKind.wrap .i64 ((IntKind.wrap .i64 (e+i))+j))+(a.redirs_.length:Int)),0)
 else
  some e)
def F16(b:Y7)(d:Y9)(a:List Cmd):Option Int:=
 iter (Z9i a d b) BIG ((a.length:Int),0)
def S16:=SQ13 16
def X5q(a:List Word)(e:Y9)(f:Y7)(g:(Int×Int)->Option Int):(Int×Int)->Option Int:=λ(b,i4)=>
 (bif decide (i4<(a.length:Int))then
  (lidx a i4).bind λd=>
  (e d.words_).bind λi=>
  (f d.cmd_).bind λj=>
  g (IntKind.wrap .i64 ((IntKind.wrap .i64 (b+i))+j),IntKind.wrap .i64 (i4+1))
 else
  some b)
def F33(b:Y7)(d:Y9)(a:List Word):Option Int:=
 iter (X5q a d b) BIG ((a.length:Int),0)
def SQ29(n:FuncId)(F:(List Word)->Option (Int)):Spec:=mkS n F (λa=>([.pv (.slice (List.map Word.pv a))],[])) (λa b=>.ret [ai b] [])
def S33:=SQ29 33
mutual
def K16:Nat->(List Cmd)->Option (Int)
 | 0=>λ_=>none
 | n+1=>F16 (K16 n) (K33 n)
def K33:Nat->(List Word)->Option (Int)
 | 0=>λ_=>none
 | n+1=>F33 (K16 n) (K33 n)
end
def J8c(b:Cmd)(e:Y9)(f:(Int×Int)->Option Int)(g i4:Int)(i:(Int×Int)->Option Int):(Int×Int)->Option Int:=λ(d,a)=>
 (bif decide (a<(b.redirs_.length:Int))then
  (lidx b.redirs_ a).bind λj=>
  (F34 j).bind λk=>
  (e k).bind λl=>
  i (imax d l,IntKind.wrap .i64 (a+1))
 else
  f (imax g (IntKind.wrap .i64 (1+d)),IntKind.wrap .i64 (i4+1)))
def Z9d(b:List Cmd)(d:Y9)(f:Y7)(g:(Int×Int)->Option Int):(Int×Int)->Option Int:=λ(e,i4)=>
 (bif decide (i4<(b.length:Int))then
  (lidx b i4).bind λa=>
  (d a.words_).bind λi=>
  (f a.kids_).bind λj=>
  iter (J8c a d g e i4) BIG (imax i j,0)
 else
  some e)
def F25(a:Y7)(b:Y9)(d:List Cmd):Option Int:=
 iter (Z9d d b a) BIG (0,0)
def S25:=SQ13 25
def X5k(a:List Word)(e:Y9)(f:Y7)(g:(Int×Int)->Option Int):(Int×Int)->Option Int:=λ(b,i4)=>
 (bif decide (i4<(a.length:Int))then
  (lidx a i4).bind λd=>
  (e d.words_).bind λi=>
  (f d.cmd_).bind λj=>
  g (imax b (IntKind.wrap .i64 (1+(imax i j))),IntKind.wrap .i64 (i4+1))
 else
  some b)
def F61(a:Y7)(b:Y9)(d:List Word):Option Int:=
 iter (X5k d b a) BIG (0,0)
def S61:=SQ29 61
mutual
def K25:Nat->(List Cmd)->Option (Int)
 | 0=>λ_=>none
 | n+1=>F25 (K25 n) (K61 n)
def K61:Nat->(List Word)->Option (Int)
 | 0=>λ_=>none
 | n+1=>F61 (K25 n) (K61 n)
end
def F9(a:Str):Option ((List Cmd)×Int×Int):=
 (F22 a).bind λ(d,i,e)=>
 (bif !decide (e=0)then
  some ([],i,e)
 else
  (F23 a d).bind λj=>
  (F24 (K142 BIG) [] a d j 0 0 0).bind λ(b,m,f,k)=>
  (bif !decide (f=0)then
   some ([],k,f)
  else
   (K16 BIG b).bind λg=>
   (Q0e (!(decide (1024<g))) (K25 BIG b)).bind λl=>
   (bif (decide (1024<g)||decide (32<l))then
    some ([],0,4)
   else
    some (b,0,0))))
def S9:=SQ17 9 F9
def Z9n(e f:Cmd)(g:Y4)(i:(Int)->Option Bool)(i5:Int)(j:Int->Option Bool):Int->Option Bool:=λd=>
 (bif decide (d<(e.redirs_.length:Int))then
  (lidx e.redirs_ d).bind λa=>
  (lidx f.redirs_ d).bind λb=>
  (Q0e (!(((!decide (a.kind_=b.kind_)||!decide (a.fd_=b.fd_))||!decide (a.from_=b.from_))||!(a.raw_==b.raw_))) (g [a.word_] [b.word_])).bind λk=>
  (bif ((((!decide (a.kind_=b.kind_)||!decide (a.fd_=b.fd_))||!decide (a.from_=b.from_))||!(a.raw_==b.raw_))||!k)then
   some false
  else
   j (IntKind.wrap .i64 (d+1)))
 else
  i (IntKind.wrap .i64 (i5+1)))
def Z4e(d g:List Cmd)(e:Y4)(i:Y6)(j:Int->Option Bool):Int->Option Bool:=λi5=>
 (bif decide (i5<(d.length:Int))then
  (lidx d i5).bind λa=>
  (lidx g i5).bind λb=>
  (Q0e (!(!decide (a.kind_=b.kind_)||!decide (a.name_=b.name_))) (e a.words_ b.words_)).bind λf=>
  (Q0e (!((!decide (a.kind_=b.kind_)||!decide (a.name_=b.name_))||!f)) (i a.kids_ b.kids_)).bind λk=>
  (bif ((((!decide (a.kind_=b.kind_)||!decide (a.name_=b.name_))||!f)||!k)||!decide ((a.redirs_.length:Int)=(b.redirs_.length:Int)))then
   some false
  else
   iter (Z9n a b e j i5) BIG 0)
 else
  some true)
def F10(d:Y6)(e:Y4)(a b:List Cmd):Option Bool:=
 (bif !decide ((a.length:Int)=(b.length:Int))then
  some false
 else
  iter (Z4e a b e d) BIG 0)
def SQ30(n:FuncId)(F:(List Cmd)->(List Cmd)->Option (Bool)):Spec:=mkS n (un2 F) (λ(a,b)=>([.pv (.slice (List.map Cmd.pv a)),.pv (.slice (List.map Cmd.pv b))],[])) (λ(a,b) c=>.ret [ab c] [])
def S10:=SQ30 10
def Z4b(d f:List Word)(g:Y4)(i:Y6)(j:Int->Option Bool):Int->Option Bool:=λi5=>
 (bif decide (i5<(d.length:Int))then
  (lidx d i5).bind λa=>
  (lidx f i5).bind λb=>
  (Q0e (!((!decide (a.kind_=b.kind_)||!decide (a.text_=b.text_))||!decide (a.quoted_=b.quoted_))) (g a.words_ b.words_)).bind λe=>
  (Q0e (!(((!decide (a.kind_=b.kind_)||!decide (a.text_=b.text_))||!decide (a.quoted_=b.quoted_))||!e)) (i a.cmd_ b.cmd_)).bind λk=>
  (bif ((((!decide (a.kind_=b.kind_)||!decide (a.text_=b.text_))||!decide (a.quoted_=b.quoted_))||!e)||!k)then
   some false
  else
   j (IntKind.wrap .i64 (i5+1)))
 else
  some true)
def F26(d:Y6)(e:Y4)(a b:List Word):Option Bool:=
 (bif !decide ((a.length:Int)=(b.length:Int))then
  some false
 else
  iter (Z4b a b e d) BIG 0)
def SQ31(n:FuncId)(F:(List Word)->(List Word)->Option (Bool)):Spec:=mkS n (un2 F) (λ(a,b)=>([.pv (.slice (List.map Word.pv a)),.pv (.slice (List.map Word.pv b))],[])) (λ(a,b) c=>.ret [ab c] [])
def S26:=SQ31 26
mutual
def K10:Nat->(List Cmd)->(List Cmd)->Option (Bool)
 | 0=>λ_ _=>none
 | n+1=>F10 (K10 n) (K26 n)
def K26:Nat->(List Word)->(List Word)->Option (Bool)
 | 0=>λ_ _=>none
 | n+1=>F26 (K10 n) (K26 n)
end
def Z9m(b d:Cmd)(e:Y4)(f:(Int)->Option Bool)(i4:Int)(g:Int->Option Bool):Int->Option Bool:=λa=>
 (bif decide (a<(b.redirs_.length:Int))then
  (lidx b.redirs_ a).bind λi=>
  (lidx d.redirs_ a).bind λj=>
  (e [i.word_] [j.word_]).bind λk=>
  (bif !k then
   some false
  else
   g (IntKind.wrap .i64 (a+1)))
 else
  f (IntKind.wrap .i64 (i4+1)))
def Z4d(d g:List Cmd)(i:Y6)(e:Y4)(j:Int->Option Bool):Int->Option Bool:=λi4=>
 (bif decide (i4<(d.length:Int))then
  (lidx d i4).bind λa=>
  (lidx g i4).bind λb=>
  (Q0e (decide (a.at_=b.at_)) (i a.kids_ b.kids_)).bind λf=>
  (Q0e (!(!decide (a.at_=b.at_)||!f)) (e a.words_ b.words_)).bind λk=>
  (bif ((!decide (a.at_=b.at_)||!f)||!k)then
   some false
  else
   iter (Z9m a b e j i4) BIG 0)
 else
  some true)
def F11(a:Y6)(b:Y4)(d e:List Cmd):Option Bool:=
 iter (Z4d d e a b) BIG 0
def S11:=SQ30 11
def Z4a(a f:List Word)(g:Y4)(i:Y6)(j:Int->Option Bool):Int->Option Bool:=λi4=>
 (bif decide (i4<(a.length:Int))then
  (lidx a i4).bind λb=>
  (lidx f i4).bind λd=>
  (g b.words_ d.words_).bind λe=>
  (Q0e e (i b.cmd_ d.cmd_)).bind λk=>
  (bif (!e||!k)then
   some false
  else
   j (IntKind.wrap .i64 (i4+1)))
 else
  some true)
def F27(a:Y6)(b:Y4)(d e:List Word):Option Bool:=
 iter (Z4a d e b a) BIG 0
def S27:=SQ31 27
mutual
def K11:Nat->(List Cmd)->(List Cmd)->Option (Bool)
 | 0=>λ_ _=>none
 | n+1=>F11 (K11 n) (K27 n)
def K27:Nat->(List Word)->(List Word)->Option (Bool)
 | 0=>λ_ _=>none
 | n+1=>F27 (K11 n) (K27 n)
end
def F3(f:Str):Option Bool:=
 (bif decide (4000<(f.length:Int))then
  (F7).bind λl=>
  some l
 else
  (F8 f).bind λ(i,a,b)=>
  (F9 f).bind λ(j,d,e)=>
  (Q0e (decide (a=d)&&decide (b=e)) (K10 BIG i j)).bind λg=>
  (Q0e ((decide (a=d)&&decide (b=e))&&g) (K11 BIG i j)).bind λk=>
  (Q0e (((decide (a=d)&&decide (b=e))&&g)&&k) (F7)).bind λm=>
  some ((((decide (a=d)&&decide (b=e))&&g)&&k)&&m))
def S3:=SQ3 3 F3
end Go.Abs.U48
