import Derived.Test.YtkfcehagblhjaaaGreatDoorLB
set_option linter.unusedVariables false
set_option linter.unusedSimpArgs false
set_option linter.defProp false
namespace Go.Abs.U54
open Go.RowKit Go.Proofs
def SL_Join_(F:(List Str)→Str→Option (Str)):Spec:=mkS 21 (α:=(List Str)×Str) (ρ:=Str) (fun(xs,sep)=>F xs sep) (fun(xs,sep)=>([.pv (.slice (List.map PV.str xs)),.pv (.str sep)],[])) (fun(xs,sep) s=>.ret [.pv (.str s)] [])
def SL_Join:Spec:=SL_Join_ L_Join
def SL_SplitN_(F:Str→Str→Int→Option ((List Str))):Spec:=mkS 36 (α:=Str×Str×Int) (ρ:=(List Str)) (fun(s,sep,n)=>F s sep n) (fun(s,sep,n)=>([.pv (.str s),.pv (.str sep),.pv (.int .i64 n)],[])) (fun(s,sep,n) l=>.ret [.pv (.slice (List.map PV.str l))] [])
def SL_SplitN:Spec:=SL_SplitN_ L_SplitN
def SL_ReplaceAll_(F:Str→Str→Str→Option (Str)):Spec:=mkS 44 (α:=Str×Str×Str) (ρ:=Str) (fun(s,a,b)=>F s a b) (fun(s,a,b)=>([.pv (.str s),.pv (.str a),.pv (.str b)],[])) (fun(s,a,b) t=>.ret [.pv (.str t)] [])
def SL_ReplaceAll:Spec:=SL_ReplaceAll_ L_ReplaceAll
def SL_SContains_(F:Str→Str→Option (Bool)):Spec:=mkS 59 (α:=Str×Str) (ρ:=Bool) (fun(s,p)=>F s p) (fun(s,p)=>([.pv (.str s),.pv (.str p)],[])) (fun(s,p) ok=>.ret [.pv (.bool ok)] [])
def SL_SContains:Spec:=SL_SContains_ L_SContains
def SL_WriteString_(F:Str→Str→Option (Int×Str)):Spec:=mkS 64 (α:=Str×Str) (ρ:=Int×Str) (fun(b,s)=>F b s) (fun(b,s)=>([.ref 0 0,.pv (.str s)],[.bld b])) (fun(b,s) (n,c)=>.ret [.pv (.int .i64 n),.pv (.nil)] [.bld c])
def SL_WriteString:Spec:=SL_WriteString_ L_WriteString
def SL_String_(F:Str→Option (Str)):Spec:=mkS 65 (α:=Str) (ρ:=Str) F (fun b=>([.ref 0 0],[.bld b])) (fun b s=>.ret [.pv (.str s)] [.gone])
def SL_String:Spec:=SL_String_ L_String
def SL_Compare_(F:Str→Str→Option (Int)):Spec:=mkS 71 (α:=Str×Str) (ρ:=Int) (fun(a,b)=>F a b) (fun(a,b)=>([.pv (.str a),.pv (.str b)],[])) (fun(a,b) n=>.ret [.pv (.int .i64 n)] [])
def SL_Compare:Spec:=SL_Compare_ L_Compare
def SL_IndexByte_(F:Str→Int→Option (Int)):Spec:=mkS 90 (α:=Str×Int) (ρ:=Int) (fun(s,c)=>F s c) (fun(s,c)=>([.pv (.str s),.pv (.int .u8 c)],[])) (fun(s,c) n=>.ret [.pv (.int .i64 n)] [])
def SL_IndexByte:Spec:=SL_IndexByte_ L_IndexByte
def SL_CloneI_(F:(List Int)→Option ((List Int))):Spec:=mkS 109 (α:=(List Int)) (ρ:=(List Int)) F (fun xs=>([.pv (.slice (List.map (PV.int .i64) xs))],[])) (fun xs l=>.ret [.vec 0 (List.length l)] [.row 3 1 (List.map (PV.int .i64) l) false])
def SL_CloneI:Spec:=SL_CloneI_ L_CloneI
def SL_Clone_(F:(List Str)→Option ((List Str))):Spec:=mkS 112 (α:=(List Str)) (ρ:=(List Str)) F (fun xs=>([.pv (.slice (List.map PV.str xs))],[])) (fun xs l=>.ret [.pv (.slice (List.map PV.str l))] [])
def SL_Clone:Spec:=SL_Clone_ L_Clone
def SL_CloneQ_(F:(List Qid)→Option ((List Qid))):Spec:=mkS 113 (α:=(List Qid)) (ρ:=(List Qid)) F (fun xs=>([.pv (.slice (List.map Qid.pv xs))],[])) (fun xs l=>.ret [.vec 0 (List.length l)] [.row 68 3 (List.map Qid.pv l) false])
def SL_CloneQ:Spec:=SL_CloneQ_ L_CloneQ
def SL_FormatInt_(F:Int→Int→Option (Str)):Spec:=mkS 134 (α:=Int×Int) (ρ:=Str) (fun(n,b)=>F n b) (fun(n,b)=>([.pv (.int .i64 n),.pv (.int .i64 b)],[])) (fun(n,b) s=>.ret [.pv (.str s)] [])
def SL_FormatInt:Spec:=SL_FormatInt_ L_FormatInt
def SL_Len64_(F:Int→Option (Int)):Spec:=mkS 144 (α:=Int) (ρ:=Int) F (fun x=>([.pv (.int .u64 x)],[])) (fun x n=>.ret [.pv (.int .i64 n)] [])
def SL_Len64:Spec:=SL_Len64_ L_Len64
def SL_CloneA_(F:(List Attr)→Option ((List Attr))):Spec:=mkS 146 (α:=(List Attr)) (ρ:=(List Attr)) F (fun xs=>([.pv (.slice (List.map Attr.pv xs))],[])) (fun xs l=>.ret [.vec 0 (List.length l)] [.row 137 3 (List.map Attr.pv l) false])
def SL_CloneA:Spec:=SL_CloneA_ L_CloneA
def SL_Repeat_(F:Str→Int→Option (Str)):Spec:=mkS 178 (α:=Str×Int) (ρ:=Str) (fun(s,n)=>F s n) (fun(s,n)=>([.pv (.str s),.pv (.int .i64 n)],[])) (fun(s,n) t=>.ret [.pv (.str t)] [])
def SL_Repeat:Spec:=SL_Repeat_ L_Repeat
def SL_WriteByte_(F:Str→Int→Option (Str)):Spec:=mkS 226 (α:=Str×Int) (ρ:=Str) (fun(b,c)=>F b c) (fun(b,c)=>([.ref 0 0,.pv (.int .u8 c)],[.bld b])) (fun(b,c) d=>.ret [.pv (.nil)] [.bld d])
def SL_WriteByte:Spec:=SL_WriteByte_ L_WriteByte
def F43_b1(s1:Str)(again11:Nat→Option Bool):Nat→Option Bool:=fun p10=>
 (bif decide (p10<s1.length)then
   (sidx s1 (p10:Int)).bind fun c16=>
   (L_IndexByte [32,9,10,59,38,124,40,41,123,125,60,62,61,94,96,36,39,92,42,63,91] c16).bind fun n19=>
   (bif decide (0≤n19)then
     some false
   else
    again11 (runeN s1 p10))
 else
  none)
def F43(s1:Str):Option Bool:=
 (guardO (!(decide (s1=[]))) (sidx s1 0)).bind fun c3=>
 (guardO (!(decide (s1=[]))) (L_IndexByte [35,33,64] c3)).bind fun n6=>
 (bif (decide (s1=[])||decide (0≤n6))then
   none
 else
  iter (F43_b1 s1) BIG 0)
def S43(F:Str→Option (Bool)):Spec:=mkS 43 (α:=Str) (ρ:=Bool) F (fun s1=>([.pv (.str s1)],[])) (fun s1 r2=>.ret [.pv (.bool r2)] [])
def F14(s1:Str):Option Str:=
 (F43 s1).bind fun r3=>
 (bif r3 then
   none
 else
  (L_ReplaceAll s1 [39] [39,39]).bind fun t7=>
  (catO [39] t7).bind fun s10=>
  (catO s10 [39]).bind fun s13=>
  some s13)
def S14(F:Str→Option (Str)):Spec:=mkS 14 (α:=Str) (ρ:=Str) F (fun s1=>([.pv (.str s1)],[])) (fun s1 r2=>.ret [.pv (.str r2)] [])
def F149(s1:Str)(prefix2:Str):Option Bool:=
 (guardO (decide ((prefix2.length:Int)≤(s1.length:Int))) (sslice s1 0 (prefix2.length:Int))).bind fun t4=>
 some (decide ((prefix2.length:Int)≤(s1.length:Int))&&decide (t4=prefix2))
def S149(F:Str→Str→Option (Bool)):Spec:=mkS 149 (α:=Str×Str) (ρ:=Bool) (fun(s1,prefix2)=>F s1 prefix2) (fun(s1,prefix2)=>([.pv (.str s1),.pv (.str prefix2)],[])) (fun(s1,prefix2) r3=>.ret [.pv (.bool r3)] [])
def F75(s1:Str)(prefix2:Str):Option Bool:=
 (F149 s1 prefix2).bind fun r4=>
 some r4
def S75(F:Str→Str→Option (Bool)):Spec:=mkS 75 (α:=Str×Str) (ρ:=Bool) (fun(s1,prefix2)=>F s1 prefix2) (fun(s1,prefix2)=>([.pv (.str s1),.pv (.str prefix2)],[])) (fun(s1,prefix2) r3=>.ret [.pv (.bool r3)] [])
def F89x1(x1:Str)(x2:Int)(x3:Int)(x4:Int)(x5:Int)(l6:List Token):Option Str:=
 (sslice x1 x2 (x1.length:Int)).bind fun t8=>
 some t8
def S89x1(F:Str→Int→Int→Int→Int→(List Token)→Option (Str)):Spec:=mkS 89 (α:=Str×Int×Int×Int×Int×(List Token)) (ρ:=Str) (fun(x1,x2,x3,x4,x5,l6)=>F x1 x2 x3 x4 x5 l6) (fun(x1,x2,x3,x4,x5,l6)=>([.ref 0 0],[.var [.pv (.str x1),.pv (.int .i64 x2),.vec 1 (List.length l6),.nils,.pv (.int .i64 x3),.pv (.int .i64 x4),.pv (.int .i64 x5)],.row 238 4 (List.map Token.pv l6) true])) (fun(x1,x2,x3,x4,x5,l6) r7=>.ret [.pv (.str r7)] [.var [.pv (.str x1),.pv (.int .i64 x2),.vec 1 (List.length l6),.nils,.pv (.int .i64 x3),.pv (.int .i64 x4),.pv (.int .i64 x5)],.row 238 4 (List.map Token.pv l6) true])
def F88x1_b1(x1:Str)(x3:Int)(x4:Int)(x5:Int)(l6:List Token)(again9:Int→Option Int):Int→Option Int:=fun x8=>
 (F89x1 x1 x8 x3 x4 x5 l6).bind fun r12=>
 (F75 r12 [32]).bind fun r16=>
 (guardO (!r16) (F75 r12 [9])).bind fun r19=>
 (bif (r16||r19)then
   again9 (IntKind.wrap .i64 (x8+1))
 else
  (F75 r12 [92,10]).bind fun r23=>
  (bif r23 then
    none
  else
   some x8))
def F88x1(x1:Str)(x2:Int)(x3:Int)(x4:Int)(x5:Int)(l6:List Token):Option Int:=
 iter (F88x1_b1 x1 x3 x4 x5 l6) BIG x2
def S88x1(F:Str→Int→Int→Int→Int→(List Token)→Option (Int)):Spec:=mkS 88 (α:=Str×Int×Int×Int×Int×(List Token)) (ρ:=Int) (fun(x1,x2,x3,x4,x5,l6)=>F x1 x2 x3 x4 x5 l6) (fun(x1,x2,x3,x4,x5,l6)=>([.ref 0 0],[.var [.pv (.str x1),.pv (.int .i64 x2),.vec 1 (List.length l6),.nils,.pv (.int .i64 x3),.pv (.int .i64 x4),.pv (.int .i64 x5)],.row 238 4 (List.map Token.pv l6) true])) (fun(x1,x2,x3,x4,x5,l6) x7=>.ret [] [.var [.pv (.str x1),.pv (.int .i64 x7),.vec 1 (List.length l6),.nils,.pv (.int .i64 x3),.pv (.int .i64 x4),.pv (.int .i64 x5)],.row 238 4 (List.map Token.pv l6) true])
def F164x1(x1:Str)(x2:Int)(x3:Int)(x4:Int)(x5:Int)(l6:List Token):Option Bool:=
 (guardO (decide (0<(l6.length:Int))) (lidx l6 (IntKind.wrap .i64 ((l6.length:Int)-1)))).bind fun u8=>
 some ((decide (0<(l6.length:Int))&&decide (u8.kind_=1))&&decide (x3=x2))
def S164x1(F:Str→Int→Int→Int→Int→(List Token)→Option (Bool)):Spec:=mkS 164 (α:=Str×Int×Int×Int×Int×(List Token)) (ρ:=Bool) (fun(x1,x2,x3,x4,x5,l6)=>F x1 x2 x3 x4 x5 l6) (fun(x1,x2,x3,x4,x5,l6)=>([.ref 0 0],[.var [.pv (.str x1),.pv (.int .i64 x2),.vec 1 (List.length l6),.nils,.pv (.int .i64 x3),.pv (.int .i64 x4),.pv (.int .i64 x5)],.row 238 4 (List.map Token.pv l6) true])) (fun(x1,x2,x3,x4,x5,l6) r7=>.ret [.pv (.bool r7)] [.var [.pv (.str x1),.pv (.int .i64 x2),.vec 1 (List.length l6),.nils,.pv (.int .i64 x3),.pv (.int .i64 x4),.pv (.int .i64 x5)],.row 238 4 (List.map Token.pv l6) true])
def F165x1_b2(r9:Str)(again34:Int→Option (Str×Bool)):Int→Option (Str×Bool):=fun i33=>
 (bif decide (i33<([[62,62],[62],[60],[124]].length:Int))then
   (lidx [[62,62],[62],[60],[124]] i33).bind fun w38=>
   (F75 r9 w38).bind fun r41=>
   (bif !r41 then
     again34 (IntKind.wrap .i64 (i33+1))
   else
    none)
 else
  some ([],true))
def F165x1_b1(r9:Str)(again14:Int→Option (Str×Bool)):Int→Option (Str×Bool):=fun i13=>
 (bif decide (i13<([[38,38],[124,124],[36,35]].length:Int))then
   (lidx [[38,38],[124,124],[36,35]] i13).bind fun w18=>
   (F75 r9 w18).bind fun r21=>
   (bif r21 then
     none
   else
    again14 (IntKind.wrap .i64 (i13+1)))
 else
  (bif decide (r9=[])then
    none
  else
   (sidx r9 0).bind fun c26=>
   (L_IndexByte [59,38,40,41,123,125,61,94,96,36,33,64] c26).bind fun n29=>
   (bif decide (0≤n29)then
     none
   else
    iter (F165x1_b2 r9) BIG 0)))
def F165x1(x1:Str)(x2:Int)(x3:Int)(x4:Int)(x5:Int)(l6:List Token):Option (Str×Bool):=
 (F89x1 x1 x2 x3 x4 x5 l6).bind fun r9=>
 iter (F165x1_b1 r9) BIG 0
def S165x1(F:Str→Int→Int→Int→Int→(List Token)→Option (Str×Bool)):Spec:=mkS 165 (α:=Str×Int×Int×Int×Int×(List Token)) (ρ:=Str×Bool) (fun(x1,x2,x3,x4,x5,l6)=>F x1 x2 x3 x4 x5 l6) (fun(x1,x2,x3,x4,x5,l6)=>([.ref 0 0],[.var [.pv (.str x1),.pv (.int .i64 x2),.vec 1 (List.length l6),.nils,.pv (.int .i64 x3),.pv (.int .i64 x4),.pv (.int .i64 x5)],.row 238 4 (List.map Token.pv l6) true])) (fun(x1,x2,x3,x4,x5,l6) (r7,r8)=>.ret [.pv (.str r7),.pv (.bool r8)] [.var [.pv (.str x1),.pv (.int .i64 x2),.vec 1 (List.length l6),.nils,.pv (.int .i64 x3),.pv (.int .i64 x4),.pv (.int .i64 x5)],.row 238 4 (List.map Token.pv l6) true])
def F230x1(x1:Str)(x2:Int)(x3:Int)(x4:Int)(x5:Int)(l6:List Token):Option Bool:=
 (F89x1 x1 x2 x3 x4 x5 l6).bind fun r8=>
 (guardO (!decide (r8=[])) (sidx r8 0)).bind fun c12=>
 (guardO (!decide (r8=[])) (L_IndexByte [32,9,10,59,38,124,40,41,123,125,60,62,61,94,96,36,39] c12)).bind fun n15=>
 (guardO (!decide (r8=[])&&decide (n15<0)) (F75 r8 [92,10])).bind fun r18=>
 some ((!decide (r8=[])&&decide (n15<0))&&!r18)
def S230x1(F:Str→Int→Int→Int→Int→(List Token)→Option (Bool)):Spec:=mkS 230 (α:=Str×Int×Int×Int×Int×(List Token)) (ρ:=Bool) (fun(x1,x2,x3,x4,x5,l6)=>F x1 x2 x3 x4 x5 l6) (fun(x1,x2,x3,x4,x5,l6)=>([.ref 0 0],[.var [.pv (.str x1),.pv (.int .i64 x2),.vec 1 (List.length l6),.nils,.pv (.int .i64 x3),.pv (.int .i64 x4),.pv (.int .i64 x5)],.row 238 4 (List.map Token.pv l6) true])) (fun(x1,x2,x3,x4,x5,l6) r7=>.ret [.pv (.bool r7)] [.var [.pv (.str x1),.pv (.int .i64 x2),.vec 1 (List.length l6),.nils,.pv (.int .i64 x3),.pv (.int .i64 x4),.pv (.int .i64 x5)],.row 238 4 (List.map Token.pv l6) true])
def F231x1_b1(x1:Str)(x2:Int)(x3:Int)(x4:Int)(x5:Int)(l6:List Token)(again10:Unit→Option (Str×Bool×Int)):Unit→Option (Str×Bool×Int):=fun _=>
 (F89x1 x1 (IntKind.wrap .i64 (x2+1)) x3 x4 x5 l6).bind fun r13=>
 (L_IndexByte r13 39).bind fun n17=>
 (bif decide (n17<0)then
   none
 else
  (sslice x1 (IntKind.wrap .i64 (x2+1)) (IntKind.wrap .i64 ((IntKind.wrap .i64 (x2+1))+n17))).bind fun t21=>
  (L_WriteString [] t21).bind fun(n24,c25)=>
  (F89x1 x1 (IntKind.wrap .i64 ((IntKind.wrap .i64 (x2+1))+(IntKind.wrap .i64 (n17+1)))) x3 x4 x5 l6).bind fun r29=>
  (F75 r29 [39]).bind fun r33=>
  (bif !r33 then
    (L_String c25).bind fun s37=>
    some (s37,true,(IntKind.wrap .i64 ((IntKind.wrap .i64 (x2+1))+(IntKind.wrap .i64 (n17+1)))))
  else
   none))
def F231x1(x1:Str)(x2:Int)(x3:Int)(x4:Int)(x5:Int)(l6:List Token):Option (Str×Bool×Int):=
 iter (F231x1_b1 x1 x2 x3 x4 x5 l6) BIG ()
def S231x1(F:Str→Int→Int→Int→Int→(List Token)→Option (Str×Bool×Int)):Spec:=mkS 231 (α:=Str×Int×Int×Int×Int×(List Token)) (ρ:=Str×Bool×Int) (fun(x1,x2,x3,x4,x5,l6)=>F x1 x2 x3 x4 x5 l6) (fun(x1,x2,x3,x4,x5,l6)=>([.ref 0 0],[.var [.pv (.str x1),.pv (.int .i64 x2),.vec 1 (List.length l6),.nils,.pv (.int .i64 x3),.pv (.int .i64 x4),.pv (.int .i64 x5)],.row 238 4 (List.map Token.pv l6) true])) (fun(x1,x2,x3,x4,x5,l6) (r7,r8,x9)=>.ret [.pv (.str r7),.pv (.bool r8)] [.var [.pv (.str x1),.pv (.int .i64 x9),.vec 1 (List.length l6),.nils,.pv (.int .i64 x3),.pv (.int .i64 x4),.pv (.int .i64 x5)],.row 238 4 (List.map Token.pv l6) true])
def F163x1_b1(x1:Str)(x3:Int)(x4:Int)(x5:Int)(l6:List Token)(again14:(Int×Str×Str)→Option (Str×Str×Bool×Int)):(Int×Str×Str)→Option (Str×Str×Bool×Int):=fun(x11,b12,b13)=>
 (F230x1 x1 x11 x3 x4 x5 l6).bind fun r17=>
 (bif r17 then
   (sidx x1 x11).bind fun c22=>
   (L_WriteByte b12 c22).bind fun d25=>
   (L_WriteByte b13 48).bind fun d29=>
   again14 (IntKind.wrap .i64 (x11+1),d25,d29)
 else
  (F89x1 x1 x11 x3 x4 x5 l6).bind fun r33=>
  (F75 r33 [39]).bind fun r37=>
  (bif r37 then
    (F231x1 x1 x11 x3 x4 x5 l6).bind fun(r41,r42,x43)=>
    (bif !r42 then
      none
    else
     (L_WriteString b12 r41).bind fun(n48,c49)=>
     (L_Repeat [49] (r41.length:Int)).bind fun t53=>
     (L_WriteString b13 t53).bind fun(n56,c57)=>
     again14 (x43,c49,c57))
  else
   (L_String b12).bind fun s61=>
   (L_String b13).bind fun s65=>
   some (s61,s65,true,x11)))
def F163x1(x1:Str)(x2:Int)(x3:Int)(x4:Int)(x5:Int)(l6:List Token):Option (Str×Str×Bool×Int):=
 iter (F163x1_b1 x1 x3 x4 x5 l6) BIG (x2,[],[])
def S163x1(F:Str→Int→Int→Int→Int→(List Token)→Option (Str×Str×Bool×Int)):Spec:=mkS 163 (α:=Str×Int×Int×Int×Int×(List Token)) (ρ:=Str×Str×Bool×Int) (fun(x1,x2,x3,x4,x5,l6)=>F x1 x2 x3 x4 x5 l6) (fun(x1,x2,x3,x4,x5,l6)=>([.ref 0 0],[.var [.pv (.str x1),.pv (.int .i64 x2),.vec 1 (List.length l6),.nils,.pv (.int .i64 x3),.pv (.int .i64 x4),.pv (.int .i64 x5)],.row 238 4 (List.map Token.pv l6) true])) (fun(x1,x2,x3,x4,x5,l6) (r7,r8,r9,x10)=>.ret [.pv (.str r7),.pv (.str r8),.pv (.bool r9)] [.var [.pv (.str x1),.pv (.int .i64 x10),.vec 1 (List.length l6),.nils,.pv (.int .i64 x3),.pv (.int .i64 x4),.pv (.int .i64 x5)],.row 238 4 (List.map Token.pv l6) true])
def F160x1(t1:Token)(x2:Str)(x3:Int)(x4:Int)(x5:Int)(x6:Int)(l7:List Token):Option (Bool×(List Token)):=
 (bif decide (1024≤(l7.length:Int))then
   none
 else
  (appO 48 l7 [t1]).bind fun out11=>
  some (true,out11))
def S160x1(F:Token→Str→Int→Int→Int→Int→(List Token)→Option (Bool×(List Token))):Spec:=mkS 160 (α:=Token×Str×Int×Int×Int×Int×(List Token)) (ρ:=Bool×(List Token)) (fun(t1,x2,x3,x4,x5,x6,l7)=>F t1 x2 x3 x4 x5 x6 l7) (fun(t1,x2,x3,x4,x5,x6,l7)=>([.ref 0 0,.pv (.agg [.int .i64 t1.kind_,.int .i64 t1.at_,.str t1.text_,.str t1.quoted_])],[.var [.pv (.str x2),.pv (.int .i64 x3),.vec 1 (List.length l7),.nils,.pv (.int .i64 x4),.pv (.int .i64 x5),.pv (.int .i64 x6)],.row 238 4 (List.map Token.pv l7) true])) (fun(t1,x2,x3,x4,x5,x6,l7) (r8,o9)=>.ret [.pv (.bool r8)] [.var [.pv (.str x2),.pv (.int .i64 x3),.vec 1 (List.length o9),.nils,.pv (.int .i64 x4),.pv (.int .i64 x5),.pv (.int .i64 x6)],.row 238 4 (List.map Token.pv o9) true])
def F166x1(t1:Token)(touches2:Bool)(x3:Str)(x4:Int)(x5:Int)(x6:Int)(x7:Int)(l8:List Token):Option (Bool×(List Token)):=
 (guardO (!(decide (t1.kind_=1))&&(decide (t1.kind_=2)&&!decide (t1.text_=[]))) (sidx t1.text_ 0)).bind fun c11=>
 (guardO (!(decide (t1.kind_=1))&&(decide (t1.kind_=2)&&!decide (t1.text_=[]))) (L_IndexByte [36,96] c11)).bind fun n14=>
 (bif (touches2&&(decide (t1.kind_=1)||((decide (t1.kind_=2)&&!decide (t1.text_=[]))&&decide (0≤n14))))then
   (F160x1 (Token.mk 2 t1.at_ [94] []) x3 x4 x5 x6 x7 l8).bind fun(r17,o18)=>
   (bif !r17 then
     none
   else
    (F160x1 t1 x3 x4 x5 x6 x7 o18).bind fun(r23,o24)=>
    some (r23,o24))
 else
  (F160x1 t1 x3 x4 x5 x6 x7 l8).bind fun(r18,o19)=>
  some (r18,o19))
def S166x1(F:Token→Bool→Str→Int→Int→Int→Int→(List Token)→Option (Bool×(List Token))):Spec:=mkS 166 (α:=Token×Bool×Str×Int×Int×Int×Int×(List Token)) (ρ:=Bool×(List Token)) (fun(t1,touches2,x3,x4,x5,x6,x7,l8)=>F t1 touches2 x3 x4 x5 x6 x7 l8) (fun(t1,touches2,x3,x4,x5,x6,x7,l8)=>([.ref 0 0,.pv (.agg [.int .i64 t1.kind_,.int .i64 t1.at_,.str t1.text_,.str t1.quoted_]),.pv (.bool touches2)],[.var [.pv (.str x3),.pv (.int .i64 x4),.vec 1 (List.length l8),.nils,.pv (.int .i64 x5),.pv (.int .i64 x6),.pv (.int .i64 x7)],.row 238 4 (List.map Token.pv l8) true])) (fun(t1,touches2,x3,x4,x5,x6,x7,l8) (r9,o10)=>.ret [.pv (.bool r9)] [.var [.pv (.str x3),.pv (.int .i64 x4),.vec 1 (List.length o10),.nils,.pv (.int .i64 x5),.pv (.int .i64 x6),.pv (.int .i64 x7)],.row 238 4 (List.map Token.pv o10) true])
def F93x1(x1:Str)(x2:Int)(x3:Int)(x4:Int)(x5:Int)(l6:List Token):Option (Bool×Int×(List Token)):=
 (F164x1 x1 x2 x3 x4 x5 l6).bind fun r10=>
 (F165x1 x1 x2 x3 x4 x5 l6).bind fun(r14,r15)=>
 (bif !r15 then
   none
 else
  (bif !decide (r14=[])then
    none
  else
   (F163x1 x1 x2 x3 x4 x5 l6).bind fun(r21,r22,r23,x24)=>
   (bif r23 then
     (F166x1 (Token.mk 1 x2 r21 r22) r10 x1 x24 x3 x4 x5 l6).bind fun(r28,o29)=>
     some (r28,x24,o29)
   else
    some (false,x24,l6))))
def S93x1(F:Str→Int→Int→Int→Int→(List Token)→Option (Bool×Int×(List Token))):Spec:=mkS 93 (α:=Str×Int×Int×Int×Int×(List Token)) (ρ:=Bool×Int×(List Token)) (fun(x1,x2,x3,x4,x5,l6)=>F x1 x2 x3 x4 x5 l6) (fun(x1,x2,x3,x4,x5,l6)=>([.ref 0 0],[.var [.pv (.str x1),.pv (.int .i64 x2),.vec 1 (List.length l6),.nils,.pv (.int .i64 x3),.pv (.int .i64 x4),.pv (.int .i64 x5)],.row 238 4 (List.map Token.pv l6) true])) (fun(x1,x2,x3,x4,x5,l6) (r7,x8,o9)=>.ret [.pv (.bool r7)] [.var [.pv (.str x1),.pv (.int .i64 x8),.vec 1 (List.length o9),.nils,.pv (.int .i64 x3),.pv (.int .i64 x4),.pv (.int .i64 x5)],.row 238 4 (List.map Token.pv o9) true])
def F40_b1(s1:Str)(again9:(Int×Int×(List Token))→Option ((List Token)×Int×Int)):(Int×Int×(List Token))→Option ((List Token)×Int×Int):=fun(x6,x7,l8)=>
 (bif decide (0=0)then
   (F88x1 s1 x6 x6 0 0 l8).bind fun x13=>
   (F89x1 s1 x13 x6 0 0 l8).bind fun r17=>
   (bif decide (r17=[])then
     (bif decide (0<0)then
       none
     else
      some (l8,0,0))
   else
    (sidx r17 0).bind fun c23=>
    (bif decide (c23=35)then
      none
    else
     (bif decide (c23=10)then
       none
     else
      (F75 r17 [60,60]).bind fun r28=>
      (bif r28 then
        none
      else
       (F93x1 s1 x13 x6 0 0 l8).bind fun(r32,x33,o34)=>
       again9 (x33,x6,o34)))))
 else
  none)
def F40(s1:Str):Option ((List Token)×Int×Int):=
 (bif decide (65536<(s1.length:Int))then
   none
 else
  iter (F40_b1 s1) BIG (0,0,([]:List Token)))
def S40(F:Str→Option ((List Token)×Int×Int)):Spec:=mkS 40 (α:=Str) (ρ:=(List Token)×Int×Int) F (fun s1=>([.pv (.str s1)],[])) (fun s1 (r2,r3,r4)=>.ret [.pv (.slice (List.map Token.pv r2)),.pv (.int .i64 r3),.pv (.int .i64 r4)] [])
def F95_b1(tokens2:List Token)(again8:Int→Option (List Str)):Int→Option (List Str):=fun i7=>
 (bif decide (i7<(tokens2.length:Int))then
   (lidx tokens2 i7).bind fun u12=>
   (bif decide (u12.kind_=4)then
     none
   else
    (bif decide (u12.kind_=3)then
      none
    else
     again8 (IntKind.wrap .i64 (i7+1))))
 else
  some (List.replicate (Int.toNat (tokens2.length:Int)) ([]:Str)))
def F95(s1:Str)(tokens2:List Token):Option (List Str):=
 (mkO 16 (tokens2.length:Int)).bind fun u4=>
 iter (F95_b1 tokens2) BIG 0
def S95(F:Str→(List Token)→Option ((List Str))):Spec:=mkS 95 (α:=Str×(List Token)) (ρ:=(List Str)) (fun(s1,tokens2)=>F s1 tokens2) (fun(s1,tokens2)=>([.pv (.str s1),.pv (.slice (List.map Token.pv tokens2))],[])) (fun(s1,tokens2) r3=>.ret [.pv (.slice (List.map PV.str r3))] [])
def F172(ahead1:Int)(x2:Str)(x3:List Token)(x4:List Str)(x5:Int):Option Token:=
 (bif decide ((x3.length:Int)≤IntKind.wrap .i64 (x5+ahead1))then
   some (Token.mk 0 0 [] [])
 else
  (lidx x3 (IntKind.wrap .i64 (x5+ahead1))).bind fun u8=>
  some u8)
def S172(F:Int→Str→(List Token)→(List Str)→Int→Option (Token)):Spec:=mkS 172 (α:=Int×Str×(List Token)×(List Str)×Int) (ρ:=Token) (fun(ahead1,x2,x3,x4,x5)=>F ahead1 x2 x3 x4 x5) (fun(ahead1,x2,x3,x4,x5)=>([.ref 0 0,.pv (.int .i64 ahead1)],[.var [.pv (.str x2),.pv (.slice (List.map Token.pv x3)),.pv (.slice (List.map PV.str x4)),.pv (.int .i64 x5)]])) (fun(ahead1,x2,x3,x4,x5) r6=>.ret [.pv (.agg [.int .i64 r6.kind_,.int .i64 r6.at_,.str r6.text_,.str r6.quoted_])] [.var [.pv (.str x2),.pv (.slice (List.map Token.pv x3)),.pv (.slice (List.map PV.str x4)),.pv (.int .i64 x5)]])
def F235(t1:Token)(symbol2:Str):Option Bool:=
 some (decide (t1.kind_=2)&&decide (t1.text_=symbol2))
def S235(F:Token→Str→Option (Bool)):Spec:=mkS 235 (α:=Token×Str) (ρ:=Bool) (fun(t1,symbol2)=>F t1 symbol2) (fun(t1,symbol2)=>([.pv (.agg [.int .i64 t1.kind_,.int .i64 t1.at_,.str t1.text_,.str t1.quoted_]),.pv (.str symbol2)],[])) (fun(t1,symbol2) r3=>.ret [.pv (.bool r3)] [])
def F234(symbol1:Str)(x2:Str)(x3:List Token)(x4:List Str)(x5:Int):Option Bool:=
 (F172 0 x2 x3 x4 x5).bind fun r7=>
 (F235 r7 symbol1).bind fun r11=>
 some r11
def S234(F:Str→Str→(List Token)→(List Str)→Int→Option (Bool)):Spec:=mkS 234 (α:=Str×Str×(List Token)×(List Str)×Int) (ρ:=Bool) (fun(symbol1,x2,x3,x4,x5)=>F symbol1 x2 x3 x4 x5) (fun(symbol1,x2,x3,x4,x5)=>([.ref 0 0,.pv (.str symbol1)],[.var [.pv (.str x2),.pv (.slice (List.map Token.pv x3)),.pv (.slice (List.map PV.str x4)),.pv (.int .i64 x5)]])) (fun(symbol1,x2,x3,x4,x5) r6=>.ret [.pv (.bool r6)] [.var [.pv (.str x2),.pv (.slice (List.map Token.pv x3)),.pv (.slice (List.map PV.str x4)),.pv (.int .i64 x5)]])
def F168_b1(x1:Str)(x2:List Token)(x3:List Str)(x4:Int)(again6:Unit→Option Bool):Unit→Option Bool:=fun _=>
 (F172 0 x1 x2 x3 x4).bind fun r9=>
 (bif decide (r9.kind_=3)then
   none
 else
  (F234 [59] x1 x2 x3 x4).bind fun r13=>
  (bif r13 then
    none
  else
   some (decide (x4<x4))))
def F168(x1:Str)(x2:List Token)(x3:List Str)(x4:Int):Option Bool:=
 iter (F168_b1 x1 x2 x3 x4) BIG ()
def S168(F:Str→(List Token)→(List Str)→Int→Option (Bool)):Spec:=mkS 168 (α:=Str×(List Token)×(List Str)×Int) (ρ:=Bool) (fun(x1,x2,x3,x4)=>F x1 x2 x3 x4) (fun(x1,x2,x3,x4)=>([.ref 0 0],[.var [.pv (.str x1),.pv (.slice (List.map Token.pv x2)),.pv (.slice (List.map PV.str x3)),.pv (.int .i64 x4)]])) (fun(x1,x2,x3,x4) r5=>.ret [.pv (.bool r5)] [.var [.pv (.str x1),.pv (.slice (List.map Token.pv x2)),.pv (.slice (List.map PV.str x3)),.pv (.int .i64 x4)]])
def F240(t1:Token):Option Bool:=
 (guardO (decide (t1.kind_=1)) (L_IndexByte t1.quoted_ 49)).bind fun n3=>
 some (decide (t1.kind_=1)&&decide (n3<0))
def S240(F:Token→Option (Bool)):Spec:=mkS 240 (α:=Token) (ρ:=Bool) F (fun t1=>([.pv (.agg [.int .i64 t1.kind_,.int .i64 t1.at_,.str t1.text_,.str t1.quoted_])],[])) (fun t1 r2=>.ret [.pv (.bool r2)] [])
def F241(s1:Str):Option Bool:=
 (guardO (!decide (s1=[])) (L_IndexByte s1 32)).bind fun n3=>
 (guardO (!decide (s1=[])&&decide (n3<0)) (catO [32] s1)).bind fun s6=>
 (guardO (!decide (s1=[])&&decide (n3<0)) (catO s6 [32])).bind fun s9=>
 (guardO (!decide (s1=[])&&decide (n3<0)) (L_SContains [32,105,102,32,110,111,116,32,119,104,105,108,101,32,102,111,114,32,105,110,32,115,119,105,116,99,104,32,99,97,115,101,32,102,110,32,126,32] s9)).bind fun ok12=>
 some ((!decide (s1=[])&&decide (n3<0))&&ok12)
def S241(F:Str→Option (Bool)):Spec:=mkS 241 (α:=Str) (ρ:=Bool) F (fun s1=>([.pv (.str s1)],[])) (fun s1 r2=>.ret [.pv (.bool r2)] [])
def F171(t1:Token):Option Str:=
 (F240 t1).bind fun r3=>
 (guardO r3 (F241 t1.text_)).bind fun r6=>
 (bif (r3&&r6)then
   none
 else
  some [])
def S171(F:Token→Option (Str)):Spec:=mkS 171 (α:=Token) (ρ:=Str) F (fun t1=>([.pv (.agg [.int .i64 t1.kind_,.int .i64 t1.at_,.str t1.text_,.str t1.quoted_])],[])) (fun t1 r2=>.ret [.pv (.str r2)] [])
def F236(t1:Token):Option Bool:=
 (bif decide (t1.kind_=1)then
   some true
 else
  (F235 t1 [36]).bind fun r4=>
  (guardO (!r4) (F235 t1 [36,35])).bind fun r7=>
  (guardO (!(r4||r7)) (F235 t1 [40])).bind fun r10=>
  (guardO (!((r4||r7)||r10)) (F235 t1 [96])).bind fun r13=>
  some (((r4||r7)||r10)||r13))
def S236(F:Token→Option (Bool)):Spec:=mkS 236 (α:=Token) (ρ:=Bool) F (fun t1=>([.pv (.agg [.int .i64 t1.kind_,.int .i64 t1.at_,.str t1.text_,.str t1.quoted_])],[])) (fun t1 r2=>.ret [.pv (.bool r2)] [])
def F237(t1:Token):Option Bool:=
 (guardO (!(decide (t1.kind_=4))&&decide (t1.kind_=2)) (sidx t1.text_ 0)).bind fun c3=>
 some (decide (t1.kind_=4)||(decide (t1.kind_=2)&&(decide (c3=60)||decide (c3=62))))
def S237(F:Token→Option (Bool)):Spec:=mkS 237 (α:=Token) (ρ:=Bool) F (fun t1=>([.pv (.agg [.int .i64 t1.kind_,.int .i64 t1.at_,.str t1.text_,.str t1.quoted_])],[])) (fun t1 r2=>.ret [.pv (.bool r2)] [])
def F169(inCase1:Bool)(x2:Str)(x3:List Token)(x4:List Str)(x5:Int):Option Bool:=
 (F172 0 x2 x3 x4 x5).bind fun r7=>
 (guardO inCase1 (F171 r7)).bind fun r11=>
 (bif (inCase1&&decide (r11=[99,97,115,101]))then
   (F172 1 x2 x3 x4 x5).bind fun r14=>
   (F235 r14 [61]).bind fun r18=>
   (bif !r18 then
     none
   else
    (F236 r7).bind fun r22=>
    (guardO (!r22) (F237 r7)).bind fun r25=>
    (guardO (!(r22||r25)) (F235 r7 [33])).bind fun r28=>
    (guardO (!((r22||r25)||r28)) (F235 r7 [64])).bind fun r31=>
    (guardO (!(((r22||r25)||r28)||r31)) (F235 r7 [123])).bind fun r34=>
    some ((((r22||r25)||r28)||r31)||r34))
 else
  (F236 r7).bind fun r15=>
  (guardO (!r15) (F237 r7)).bind fun r18=>
  (guardO (!(r15||r18)) (F235 r7 [33])).bind fun r21=>
  (guardO (!((r15||r18)||r21)) (F235 r7 [64])).bind fun r24=>
  (guardO (!(((r15||r18)||r21)||r24)) (F235 r7 [123])).bind fun r27=>
  some ((((r15||r18)||r21)||r24)||r27))
def S169(F:Bool→Str→(List Token)→(List Str)→Int→Option (Bool)):Spec:=mkS 169 (α:=Bool×Str×(List Token)×(List Str)×Int) (ρ:=Bool) (fun(inCase1,x2,x3,x4,x5)=>F inCase1 x2 x3 x4 x5) (fun(inCase1,x2,x3,x4,x5)=>([.ref 0 0,.pv (.bool inCase1)],[.var [.pv (.str x2),.pv (.slice (List.map Token.pv x3)),.pv (.slice (List.map PV.str x4)),.pv (.int .i64 x5)]])) (fun(inCase1,x2,x3,x4,x5) r6=>.ret [.pv (.bool r6)] [.var [.pv (.str x2),.pv (.slice (List.map Token.pv x3)),.pv (.slice (List.map PV.str x4)),.pv (.int .i64 x5)]])
def F326_b1(s1:Str)(again4:Int→Option Bool):Int→Option Bool:=fun i3=>
 (bif decide (i3<(s1.length:Int))then
   (sidx s1 i3).bind fun c8=>
   (bif (((((decide (c8<97)||decide (122<c8))&&(decide (c8<65)||decide (90<c8)))&&(decide (c8<48)||decide (57<c8)))&&!decide (c8=95))&&!decide (c8=42))then
     none
   else
    again4 (IntKind.wrap .i64 (i3+1)))
 else
  some (!decide (s1=[])))
def F326(s1:Str):Option Bool:=
 iter (F326_b1 s1) BIG 0
def S326(F:Str→Option (Bool)):Spec:=mkS 326 (α:=Str) (ρ:=Bool) F (fun s1=>([.pv (.str s1)],[])) (fun s1 r2=>.ret [.pv (.bool r2)] [])
def F356(x1:Str)(x2:List Token)(x3:List Str)(x4:Int):Option (Word×Int):=
 (F172 0 x1 x2 x3 x4).bind fun r7=>
 (F236 r7).bind fun r11=>
 (bif !r11 then
   none
 else
  (bif decide (r7.kind_=1)then
    some (Word.mk 1 r7.text_ r7.quoted_ [] [],IntKind.wrap .i64 (x4+1))
  else
   none))
def S356(F:Str→(List Token)→(List Str)→Int→Option (Word×Int)):Spec:=mkS 356 (α:=Str×(List Token)×(List Str)×Int) (ρ:=Word×Int) (fun(x1,x2,x3,x4)=>F x1 x2 x3 x4) (fun(x1,x2,x3,x4)=>([.ref 0 0],[.var [.pv (.str x1),.pv (.slice (List.map Token.pv x2)),.pv (.slice (List.map PV.str x3)),.pv (.int .i64 x4)]])) (fun(x1,x2,x3,x4) (r5,x6)=>.ret [.pv (.agg [.int .i64 r5.kind_,.str r5.text_,.str r5.quoted_,.slice (List.map Word.pv r5.words_),.slice (List.map Cmd.pv r5.cmd_)])] [.var [.pv (.str x1),.pv (.slice (List.map Token.pv x2)),.pv (.slice (List.map PV.str x3)),.pv (.int .i64 x6)]])
def F239(symbol1:Str)(x2:Str)(x3:List Token)(x4:List Str)(x5:Int):Option Bool:=
 (F234 symbol1 x2 x3 x4 x5).bind fun r7=>
 (bif r7 then
   none
 else
  some r7)
def S239(F:Str→Str→(List Token)→(List Str)→Int→Option (Bool)):Spec:=mkS 239 (α:=Str×Str×(List Token)×(List Str)×Int) (ρ:=Bool) (fun(symbol1,x2,x3,x4,x5)=>F symbol1 x2 x3 x4 x5) (fun(symbol1,x2,x3,x4,x5)=>([.ref 0 0,.pv (.str symbol1)],[.var [.pv (.str x2),.pv (.slice (List.map Token.pv x3)),.pv (.slice (List.map PV.str x4)),.pv (.int .i64 x5)]])) (fun(symbol1,x2,x3,x4,x5) r6=>.ret [.pv (.bool r6)] [.var [.pv (.str x2),.pv (.slice (List.map Token.pv x3)),.pv (.slice (List.map PV.str x4)),.pv (.int .i64 x5)]])
def F345_b1(x1:Str)(x2:List Token)(x3:List Str)(x8:Int)(r7:Word)(again12:Unit→Option (Word×Int)):Unit→Option (Word×Int):=fun _=>
 (F239 [94] x1 x2 x3 x8).bind fun r15=>
 (bif r15 then
   none
 else
  (bif decide (([r7].length:Int)=1)then
    some (r7,x8)
  else
   none))
def F345(x1:Str)(x2:List Token)(x3:List Str)(x4:Int):Option (Word×Int):=
 (F356 x1 x2 x3 x4).bind fun(r7,x8)=>
 iter (F345_b1 x1 x2 x3 x8 r7) BIG ()
def S345(F:Str→(List Token)→(List Str)→Int→Option (Word×Int)):Spec:=mkS 345 (α:=Str×(List Token)×(List Str)×Int) (ρ:=Word×Int) (fun(x1,x2,x3,x4)=>F x1 x2 x3 x4) (fun(x1,x2,x3,x4)=>([.ref 0 0],[.var [.pv (.str x1),.pv (.slice (List.map Token.pv x2)),.pv (.slice (List.map PV.str x3)),.pv (.int .i64 x4)]])) (fun(x1,x2,x3,x4) (r5,x6)=>.ret [.pv (.agg [.int .i64 r5.kind_,.str r5.text_,.str r5.quoted_,.slice (List.map Word.pv r5.words_),.slice (List.map Cmd.pv r5.cmd_)])] [.var [.pv (.str x1),.pv (.slice (List.map Token.pv x2)),.pv (.slice (List.map PV.str x3)),.pv (.int .i64 x6)]])
def F335_b1(x1:Str)(x2:List Token)(x3:List Str)(r7:Token)(again13:(Int×(List Word))→Option (Cmd×Int)):(Int×(List Word))→Option (Cmd×Int):=fun(x11,l12)=>
 (F172 0 x1 x2 x3 x11).bind fun r16=>
 (guardO (decide ((l12.length:Int)=0)&&decide (0<0)) (F171 r16)).bind fun r20=>
 (bif ((((decide ((l12.length:Int)=0)&&decide (0<0))&&!decide (r20=[]))&&!decide (r20=[110,111,116]))&&!decide (r20=[105,110]))then
   none
 else
  (F236 r16).bind fun r24=>
  (bif r24 then
    (F345 x1 x2 x3 x11).bind fun(r28,x29)=>
    (appO 88 l12 [r28]).bind fun out33=>
    again13 (x29,out33)
  else
   (F237 r16).bind fun r36=>
   (bif r36 then
     none
   else
    some (Cmd.mk 1 r7.at_ [] l12 [] [],x11))))
def F335(x1:Str)(x2:List Token)(x3:List Str)(x4:Int):Option (Cmd×Int):=
 (F172 0 x1 x2 x3 x4).bind fun r7=>
 iter (F335_b1 x1 x2 x3 r7) BIG (x4,([]:List Word))
def S335(F:Str→(List Token)→(List Str)→Int→Option (Cmd×Int)):Spec:=mkS 335 (α:=Str×(List Token)×(List Str)×Int) (ρ:=Cmd×Int) (fun(x1,x2,x3,x4)=>F x1 x2 x3 x4) (fun(x1,x2,x3,x4)=>([.ref 0 0],[.var [.pv (.str x1),.pv (.slice (List.map Token.pv x2)),.pv (.slice (List.map PV.str x3)),.pv (.int .i64 x4)]])) (fun(x1,x2,x3,x4) (r5,x6)=>.ret [.pv (.agg [.int .i64 r5.kind_,.int .i64 r5.at_,.str r5.name_,.slice (List.map Word.pv r5.words_),.slice (List.map Redir.pv r5.redirs_),.slice (List.map Cmd.pv r5.kids_)])] [.var [.pv (.str x1),.pv (.slice (List.map Token.pv x2)),.pv (.slice (List.map PV.str x3)),.pv (.int .i64 x6)]])
def F307(inCase1:Bool)(x2:Str)(x3:List Token)(x4:List Str)(x5:Int):Option (Cmd×Int):=
 (F172 0 x2 x3 x4 x5).bind fun r8=>
 (F172 1 x2 x3 x4 x5).bind fun r12=>
 (F240 r8).bind fun r16=>
 (guardO r16 (F326 r8.text_)).bind fun r19=>
 (guardO (r16&&r19) (F235 r12 [61])).bind fun r22=>
 (bif ((r16&&r19)&&r22)then
   none
 else
  (F235 r8 [33]).bind fun r26=>
  (bif r26 then
    none
  else
   (F235 r8 [64]).bind fun r30=>
   (bif r30 then
     none
   else
    (F235 r8 [123]).bind fun r34=>
    (bif r34 then
      none
    else
     (F171 r8).bind fun r38=>
     (bif decide (r38=[105,102])then
       none
     else
      (bif decide (r38=[119,104,105,108,101])then
        none
      else
       (bif decide (r38=[102,111,114])then
         none
       else
        (bif decide (r38=[115,119,105,116,99,104])then
          none
        else
         (bif decide (r38=[102,110])then
           none
         else
          (bif decide (r38=[126])then
            none
          else
           (bif decide (r38=[99,97,115,101])then
             none
           else
            (F169 inCase1 x2 x3 x4 x5).bind fun r48=>
            (bif !r48 then
              none
            else
             (F335 x2 x3 x4 x5).bind fun(r53,x54)=>
             some (r53,x54)))))))))))))
def S307(F:Bool→Str→(List Token)→(List Str)→Int→Option (Cmd×Int)):Spec:=mkS 307 (α:=Bool×Str×(List Token)×(List Str)×Int) (ρ:=Cmd×Int) (fun(inCase1,x2,x3,x4,x5)=>F inCase1 x2 x3 x4 x5) (fun(inCase1,x2,x3,x4,x5)=>([.ref 0 0,.pv (.bool inCase1)],[.var [.pv (.str x2),.pv (.slice (List.map Token.pv x3)),.pv (.slice (List.map PV.str x4)),.pv (.int .i64 x5)]])) (fun(inCase1,x2,x3,x4,x5) (r6,x7)=>.ret [.pv (.agg [.int .i64 r6.kind_,.int .i64 r6.at_,.str r6.name_,.slice (List.map Word.pv r6.words_),.slice (List.map Redir.pv r6.redirs_),.slice (List.map Cmd.pv r6.kids_)])] [.var [.pv (.str x2),.pv (.slice (List.map Token.pv x3)),.pv (.slice (List.map PV.str x4)),.pv (.int .i64 x7)]])
def F279_b1(x2:Str)(x3:List Token)(x4:List Str)(x9:Int)(r8:Cmd)(again13:Unit→Option (Cmd×Int)):Unit→Option (Cmd×Int):=fun _=>
 (F239 [124] x2 x3 x4 x9).bind fun r16=>
 (bif r16 then
   none
 else
  (bif decide (([r8].length:Int)=1)then
    some (r8,x9)
  else
   none))
def F279(inCase1:Bool)(x2:Str)(x3:List Token)(x4:List Str)(x5:Int):Option (Cmd×Int):=
 (F307 inCase1 x2 x3 x4 x5).bind fun(r8,x9)=>
 iter (F279_b1 x2 x3 x4 x9 r8) BIG ()
def S279(F:Bool→Str→(List Token)→(List Str)→Int→Option (Cmd×Int)):Spec:=mkS 279 (α:=Bool×Str×(List Token)×(List Str)×Int) (ρ:=Cmd×Int) (fun(inCase1,x2,x3,x4,x5)=>F inCase1 x2 x3 x4 x5) (fun(inCase1,x2,x3,x4,x5)=>([.ref 0 0,.pv (.bool inCase1)],[.var [.pv (.str x2),.pv (.slice (List.map Token.pv x3)),.pv (.slice (List.map PV.str x4)),.pv (.int .i64 x5)]])) (fun(inCase1,x2,x3,x4,x5) (r6,x7)=>.ret [.pv (.agg [.int .i64 r6.kind_,.int .i64 r6.at_,.str r6.name_,.slice (List.map Word.pv r6.words_),.slice (List.map Redir.pv r6.redirs_),.slice (List.map Cmd.pv r6.kids_)])] [.var [.pv (.str x2),.pv (.slice (List.map Token.pv x3)),.pv (.slice (List.map PV.str x4)),.pv (.int .i64 x7)]])
def F238_b1(x2:Str)(x3:List Token)(x4:List Str)(x9:Int)(r8:Cmd)(again13:Unit→Option (Cmd×Int)):Unit→Option (Cmd×Int):=fun _=>
 (F239 [38,38] x2 x3 x4 x9).bind fun r16=>
 (bif r16 then
   none
 else
  (F239 [124,124] x2 x3 x4 x9).bind fun r21=>
  (bif r21 then
    none
  else
   some (r8,x9)))
def F238(inCase1:Bool)(x2:Str)(x3:List Token)(x4:List Str)(x5:Int):Option (Cmd×Int):=
 (F279 inCase1 x2 x3 x4 x5).bind fun(r8,x9)=>
 iter (F238_b1 x2 x3 x4 x9 r8) BIG ()
def S238(F:Bool→Str→(List Token)→(List Str)→Int→Option (Cmd×Int)):Spec:=mkS 238 (α:=Bool×Str×(List Token)×(List Str)×Int) (ρ:=Cmd×Int) (fun(inCase1,x2,x3,x4,x5)=>F inCase1 x2 x3 x4 x5) (fun(inCase1,x2,x3,x4,x5)=>([.ref 0 0,.pv (.bool inCase1)],[.var [.pv (.str x2),.pv (.slice (List.map Token.pv x3)),.pv (.slice (List.map PV.str x4)),.pv (.int .i64 x5)]])) (fun(inCase1,x2,x3,x4,x5) (r6,x7)=>.ret [.pv (.agg [.int .i64 r6.kind_,.int .i64 r6.at_,.str r6.name_,.slice (List.map Word.pv r6.words_),.slice (List.map Redir.pv r6.redirs_),.slice (List.map Cmd.pv r6.kids_)])] [.var [.pv (.str x2),.pv (.slice (List.map Token.pv x3)),.pv (.slice (List.map PV.str x4)),.pv (.int .i64 x7)]])
def F170(inCase1:Bool)(x2:Str)(x3:List Token)(x4:List Str)(x5:Int):Option (Cmd×Int):=
 (F238 inCase1 x2 x3 x4 x5).bind fun(r8,x9)=>
 (F239 [38] x2 x3 x4 x9).bind fun r13=>
 (bif r13 then
   none
 else
  some (r8,x9))
def S170(F:Bool→Str→(List Token)→(List Str)→Int→Option (Cmd×Int)):Spec:=mkS 170 (α:=Bool×Str×(List Token)×(List Str)×Int) (ρ:=Cmd×Int) (fun(inCase1,x2,x3,x4,x5)=>F inCase1 x2 x3 x4 x5) (fun(inCase1,x2,x3,x4,x5)=>([.ref 0 0,.pv (.bool inCase1)],[.var [.pv (.str x2),.pv (.slice (List.map Token.pv x3)),.pv (.slice (List.map PV.str x4)),.pv (.int .i64 x5)]])) (fun(inCase1,x2,x3,x4,x5) (r6,x7)=>.ret [.pv (.agg [.int .i64 r6.kind_,.int .i64 r6.at_,.str r6.name_,.slice (List.map Word.pv r6.words_),.slice (List.map Redir.pv r6.redirs_),.slice (List.map Cmd.pv r6.kids_)])] [.var [.pv (.str x2),.pv (.slice (List.map Token.pv x3)),.pv (.slice (List.map PV.str x4)),.pv (.int .i64 x7)]])
def F96_b1(inCase1:Bool)(x2:Str)(x3:List Token)(x4:List Str)(x5:Int)(again12:Unit→Option ((List Cmd)×Int)):Unit→Option ((List Cmd)×Int):=fun _=>
 (F169 inCase1 x2 x3 x4 x5).bind fun r15=>
 (bif r15 then
   (F170 inCase1 x2 x3 x4 x5).bind fun(r20,x21)=>
   (appO 104 ([]:List Cmd) [r20]).bind fun out25=>
   (F168 x2 x3 x4 x21).bind fun r28=>
   (bif (r28||decide (r20.kind_=14))then
     none
   else
    (bif inCase1 then
      (F172 0 x2 x3 x4 x21).bind fun r33=>
      (F171 r33).bind fun r37=>
      (bif decide (r37=[99,97,115,101])then
        none
      else
       some (out25,x21))
    else
     some (out25,x21)))
 else
  none)
def F96(inCase1:Bool)(x2:Str)(x3:List Token)(x4:List Str)(x5:Int):Option ((List Cmd)×Int):=
 (F168 x2 x3 x4 x5).bind fun r8=>
 iter (F96_b1 inCase1 x2 x3 x4 x5) BIG ()
def S96(F:Bool→Str→(List Token)→(List Str)→Int→Option ((List Cmd)×Int)):Spec:=mkS 96 (α:=Bool×Str×(List Token)×(List Str)×Int) (ρ:=(List Cmd)×Int) (fun(inCase1,x2,x3,x4,x5)=>F inCase1 x2 x3 x4 x5) (fun(inCase1,x2,x3,x4,x5)=>([.ref 0 0,.pv (.bool inCase1)],[.var [.pv (.str x2),.pv (.slice (List.map Token.pv x3)),.pv (.slice (List.map PV.str x4)),.pv (.int .i64 x5)]])) (fun(inCase1,x2,x3,x4,x5) (r6,x7)=>.ret [.pv (.slice (List.map Cmd.pv r6))] [.var [.pv (.str x2),.pv (.slice (List.map Token.pv x3)),.pv (.slice (List.map PV.str x4)),.pv (.int .i64 x7)]])
def F41(s1:Str)(tokens2:List Token):Option ((List Cmd)×Int×Int):=
 (F95 s1 tokens2).bind fun docs3=>
 (F96 false s1 tokens2 docs3 0).bind fun(out4,next5)=>
 (bif decide (next5<(tokens2.length:Int))then none else some (out4,0,0))
def S41(F:Str→(List Token)→Option ((List Cmd)×Int×Int)):Spec:=mkS 41 (α:=Str×(List Token)) (ρ:=(List Cmd)×Int×Int) (fun(s1,tokens2)=>F s1 tokens2) (fun(s1,tokens2)=>([.pv (.str s1),.pv (.slice (List.map Token.pv tokens2))],[])) (fun(s1,tokens2) (r3,r4,r5)=>.ret [.pv (.slice (List.map Cmd.pv r3)),.pv (.int .i64 r4),.pv (.int .i64 r5)] [])
def F173_b1(w1:Word)(r3:Int)(again6:Unit→Option Int):Unit→Option Int:=fun _=>
 (bif decide (0<(w1.words_.length:Int))then
   none
 else
  some (IntKind.wrap .i64 (1+r3)))
def F173(w98:((List Cmd)→Option (Int)))(w1:Word):Option Int:=
 (w98 w1.cmd_).bind fun r3=>
 iter (F173_b1 w1 r3) BIG ()
def S173(F:Word→Option (Int)):Spec:=mkS 173 (α:=Word) (ρ:=Int) F (fun w1=>([.pv (.agg [.int .i64 w1.kind_,.str w1.text_,.str w1.quoted_,.slice (List.map Word.pv w1.words_),.slice (List.map Cmd.pv w1.cmd_)])],[])) (fun w1 r2=>.ret [.pv (.int .i64 r2)] [])
def F98_b5(u9:Cmd)(again5:(Int×Int)→Option Int)(n15:Int)(i4:Int)(again27:Unit→Option Int):Unit→Option Int:=fun _=>
 (bif decide (0<(u9.redirs_.length:Int))then
   none
 else
  again5 (n15,IntKind.wrap .i64 (i4+1)))
def F98_b4(u9:Cmd)(w98:((List Cmd)→Option (Int)))(again5:(Int×Int)→Option Int)(i4:Int)(again17:(Int×Int)→Option Int):(Int×Int)→Option Int:=fun(n15,i16)=>
 (bif decide (i16<(u9.words_.length:Int))then
   (lidx u9.words_ i16).bind fun u21=>
   (F173 w98 u21).bind fun r24=>
   again17 (IntKind.wrap .i64 (n15+r24),IntKind.wrap .i64 (i16+1))
 else
  iter (F98_b5 u9 again5 n15 i4) BIG ())
def F98_b3(l1:List Cmd)(w98:((List Cmd)→Option (Int)))(again5:(Int×Int)→Option Int):(Int×Int)→Option Int:=fun(n3,i4)=>
 (bif decide (i4<(l1.length:Int))then
   (lidx l1 i4).bind fun u9=>
   (w98 u9.kids_).bind fun r12=>
   iter (F98_b4 u9 w98 again5 i4) BIG (IntKind.wrap .i64 (n3+(IntKind.wrap .i64 ((IntKind.wrap .i64 (1+(u9.redirs_.length:Int)))+r12))),0)
 else
  some n3)
def F98(w98:((List Cmd)→Option (Int)))(l1:List Cmd):Option Int:=
 iter (F98_b3 l1 w98) BIG (0,0)
def S98(F:(List Cmd)→Option (Int)):Spec:=mkS 98 (α:=(List Cmd)) (ρ:=Int) F (fun l1=>([.pv (.slice (List.map Cmd.pv l1))],[])) (fun l1 r2=>.ret [.pv (.int .i64 r2)] [])
def K98:Nat→(List Cmd)→Option (Int)
 | 0=>fun _=>none
 | n+1=>F98 (K98 n)
def F176_b2(w1:Word)(again7:Unit→Option Int):Unit→Option Int:=fun _=>
 (bif decide (0<(w1.cmd_.length:Int))then
   none
 else
  some (IntKind.wrap .i64 (0+1)))
def F176_b1(w1:Word)(again3:Unit→Option Int):Unit→Option Int:=fun _=>
 (bif decide (0<(w1.words_.length:Int))then
   none
 else
  iter (F176_b2 w1) BIG ())
def F176(w1:Word):Option Int:=
 iter (F176_b1 w1) BIG ()
def S176(F:Word→Option (Int)):Spec:=mkS 176 (α:=Word) (ρ:=Int) F (fun w1=>([.pv (.agg [.int .i64 w1.kind_,.str w1.text_,.str w1.quoted_,.slice (List.map Word.pv w1.words_),.slice (List.map Cmd.pv w1.cmd_)])],[])) (fun w1 r2=>.ret [.pv (.int .i64 r2)] [])
def F101_b3(c1:Cmd)(n7:Int)(again19:Unit→Option Int):Unit→Option Int:=fun _=>
 (bif decide (0<(c1.redirs_.length:Int))then
   none
 else
  some (IntKind.wrap .i64 (n7+1)))
def F101_b2(c1:Cmd)(again9:(Int×Int)→Option Int):(Int×Int)→Option Int:=fun(n7,i8)=>
 (bif decide (i8<(c1.words_.length:Int))then
   (lidx c1.words_ i8).bind fun u13=>
   (F176 u13).bind fun r16=>
   again9 (imax n7 r16,IntKind.wrap .i64 (i8+1))
 else
  iter (F101_b3 c1 n7) BIG ())
def F101_b1(c1:Cmd)(again3:Unit→Option Int):Unit→Option Int:=fun _=>
 (bif decide (0<(c1.kids_.length:Int))then
   none
 else
  iter (F101_b2 c1) BIG (0,0))
def F101(c1:Cmd):Option Int:=
 iter (F101_b1 c1) BIG ()
def S101(F:Cmd→Option (Int)):Spec:=mkS 101 (α:=Cmd) (ρ:=Int) F (fun c1=>([.pv (.agg [.int .i64 c1.kind_,.int .i64 c1.at_,.str c1.name_,.slice (List.map Word.pv c1.words_),.slice (List.map Redir.pv c1.redirs_),.slice (List.map Cmd.pv c1.kids_)])],[])) (fun c1 r2=>.ret [.pv (.int .i64 r2)] [])
def F100(c1:Cmd):Option Bool:=
 (F101 c1).bind fun r3=>
 some (decide (32<r3))
def S100(F:Cmd→Option (Bool)):Spec:=mkS 100 (α:=Cmd) (ρ:=Bool) F (fun c1=>([.pv (.agg [.int .i64 c1.kind_,.int .i64 c1.at_,.str c1.name_,.slice (List.map Word.pv c1.words_),.slice (List.map Redir.pv c1.redirs_),.slice (List.map Cmd.pv c1.kids_)])],[])) (fun c1 r2=>.ret [.pv (.bool r2)] [])
def F175_b1(s1:List Cmd)(again4:Int→Option Int):Int→Option Int:=fun i3=>
 (bif decide (i3<(s1.length:Int))then
   (lidx s1 i3).bind fun u8=>
   (F100 u8).bind fun r11=>
   (bif r11 then
     none
   else
    again4 (IntKind.wrap .i64 (i3+1)))
 else
  some (-1))
def F175(s1:List Cmd):Option Int:=
 iter (F175_b1 s1) BIG 0
def S175(F:(List Cmd)→Option (Int)):Spec:=mkS 175 (α:=(List Cmd)) (ρ:=Int) F (fun s1=>([.pv (.slice (List.map Cmd.pv s1)),.fn 100 []],[])) (fun s1 r2=>.ret [.pv (.int .i64 r2)] [])
def F99(s1:List Cmd):Option Bool:=
 (F175 s1).bind fun r3=>
 some (decide (0≤r3))
def S99(F:(List Cmd)→Option (Bool)):Spec:=mkS 99 (α:=(List Cmd)) (ρ:=Bool) F (fun s1=>([.pv (.slice (List.map Cmd.pv s1)),.fn 100 []],[])) (fun s1 r2=>.ret [.pv (.bool r2)] [])
def F42(l1:List Cmd):Option Bool:=
 (K98 BIG l1).bind fun r3=>
 (bif decide (r3≤1024)then
   (F99 l1).bind fun r6=>
   some (!r6)
 else
  some false)
def S42(F:(List Cmd)→Option (Bool)):Spec:=mkS 42 (α:=(List Cmd)) (ρ:=Bool) F (fun l1=>([.pv (.slice (List.map Cmd.pv l1))],[])) (fun l1 r2=>.ret [.pv (.bool r2)] [])
def F13(s1:Str):Option ((List Cmd)×Int×Int):=
 (F40 s1).bind fun(r5,r6,r7)=>
 (bif !decide (r7=0)then
   none
 else
  (F41 s1 r5).bind fun(r11,r12,r13)=>
  (bif !decide (r13=0)then
    none
  else
   (F42 r11).bind fun r17=>
   (bif !r17 then
     none
   else
    some (r11,0,0))))
def S13(F:Str→Option ((List Cmd)×Int×Int)):Spec:=mkS 13 (α:=Str) (ρ:=(List Cmd)×Int×Int) F (fun s1=>([.pv (.str s1)],[])) (fun s1 (r2,r3,r4)=>.ret [.pv (.slice (List.map Cmd.pv r2)),.pv (.int .i64 r3),.pv (.int .i64 r4)] [])
def F45(l1:List GEnv)(group2:Int)(w3:Word):Option ((List GValue)×Int):=
 (bif decide (w3.kind_=1)then
   (bif !decide ((w3.text_.length:Int)=(w3.quoted_.length:Int))then
     none
   else
    some ([GValue.mk w3.text_ w3.quoted_],0))
 else
  none)
def S45(F:(List GEnv)→Int→Word→Option ((List GValue)×Int)):Spec:=mkS 45 (α:=(List GEnv)×Int×Word) (ρ:=(List GValue)×Int) (fun(l1,group2,w3)=>F l1 group2 w3) (fun(l1,group2,w3)=>([.pv (.slice (List.map GEnv.pv l1)),.pv (.int .i64 group2),.pv (.agg [.int .i64 w3.kind_,.str w3.text_,.str w3.quoted_,.slice (List.map Word.pv w3.words_),.slice (List.map Cmd.pv w3.cmd_)])],[])) (fun(l1,group2,w3) (r4,r5)=>.ret [.pv (.slice (List.map GValue.pv r4)),.pv (.int .i64 r5)] [])
def F46_b1(l1:List GValue)(again5:(Int×(List Str))→Option (List Str)):(Int×(List Str))→Option (List Str):=fun(i3,l4)=>
 (bif decide (i3<(l1.length:Int))then
   (lidx l1 i3).bind fun u9=>
   (appO 16 l4 [u9.text_]).bind fun out12=>
   again5 (IntKind.wrap .i64 (i3+1),out12)
 else
  some l4)
def F46(l1:List GValue):Option (List Str):=
 iter (F46_b1 l1) BIG (0,([]:List Str))
def S46(F:(List GValue)→Option ((List Str))):Spec:=mkS 46 (α:=(List GValue)) (ρ:=(List Str)) F (fun l1=>([.pv (.slice (List.map GValue.pv l1))],[])) (fun l1 r2=>.ret [.pv (.slice (List.map PV.str r2))] [])
def F15_b1(r7:List GValue)(again14:(Int×(List Str))→Option ((List Str)×(List Str)×Int)):(Int×(List Str))→Option ((List Str)×(List Str)×Int):=fun(i12,l13)=>
 (bif decide (i12<(r7.length:Int))then
   (lidx r7 i12).bind fun u18=>
   (appO 16 l13 [u18.marks_]).bind fun out21=>
   again14 (IntKind.wrap .i64 (i12+1),out21)
 else
  (F46 r7).bind fun r24=>
  some (r24,l13,0))
def F15(l1:List GEnv)(group2:Int)(w3:Word):Option ((List Str)×(List Str)×Int):=
 (F45 l1 group2 w3).bind fun(r7,r8)=>
 (bif !decide (r8=0)then
   none
 else
  iter (F15_b1 r7) BIG (0,([]:List Str)))
def S15(F:(List GEnv)→Int→Word→Option ((List Str)×(List Str)×Int)):Spec:=mkS 15 (α:=(List GEnv)×Int×Word) (ρ:=(List Str)×(List Str)×Int) (fun(l1,group2,w3)=>F l1 group2 w3) (fun(l1,group2,w3)=>([.pv (.slice (List.map GEnv.pv l1)),.pv (.int .i64 group2),.pv (.agg [.int .i64 w3.kind_,.str w3.text_,.str w3.quoted_,.slice (List.map Word.pv w3.words_),.slice (List.map Cmd.pv w3.cmd_)])],[])) (fun(l1,group2,w3) (r4,r5,r6)=>.ret [.pv (.slice (List.map PV.str r4)),.pv (.slice (List.map PV.str r5)),.pv (.int .i64 r6)] [])
def F17:Option Client:=
 some (Client.mk true 0 [] [] [] [])
def S17(F:Option (Client)):Spec:=mkS 17 (α:=Unit) (ρ:=Client) (fun(_:Unit)=>F) (fun(_:Unit)=>([],[])) (fun(_:Unit) r1=>.ret [.pv (.agg [.bool r1.up_,.int .i64 r1.msize_,.str r1.session_,.slice (List.map (PV.int .i64) r1.fids_),.slice (List.map Call.pv r1.calls_),.str r1.partial_])] [])
theorem S17_F(F:Option (Client)):(S17 F).F ()=F:=rfl
def F47_b1(c1:Client)(again11:Unit→Option (Bool×Int×Str×(List Int)×(List Call)×Str)):Unit→Option (Bool×Int×Str×(List Int)×(List Call)×Str):=fun _=>
 (bif decide (0<(c1.calls_.length:Int))then
   none
 else
  (L_CloneI c1.fids_).bind fun l15=>
  some (c1.up_,c1.msize_,c1.session_,l15,([]:List Call),c1.partial_))
def F47(c1:Client):Option (Bool×Int×Str×(List Int)×(List Call)×Str):=
 (mkO 432 (c1.calls_.length:Int)).bind fun u8=>
 iter (F47_b1 c1) BIG ()
def S47(F:Client→Option (Bool×Int×Str×(List Int)×(List Call)×Str)):Spec:=mkS 47 (α:=Client) (ρ:=Bool×Int×Str×(List Int)×(List Call)×Str) F (fun c1=>([.pv (.agg [.bool c1.up_,.int .i64 c1.msize_,.str c1.session_,.slice (List.map (PV.int .i64) c1.fids_),.slice (List.map Call.pv c1.calls_),.str c1.partial_])],[])) (fun c1 (up2,msize3,session4,r5,r6,partial7)=>.ret [.agg [.pv (.bool up2),.pv (.int .i64 msize3),.pv (.str session4),.vec 0 (List.length r5),.vec 1 (List.length r6),.pv (.str partial7)]] [.row 3 1 (List.map (PV.int .i64) r5) false,.row 122 40 (List.map Call.pv r6) false])
def F57(kind1:Int):Option Str:=
 (bif (decide (kind1<100)||decide (131<kind1))then
   none
 else
  (lidx [[84,86,101,114,115,105,111,110],[82,86,101,114,115,105,111,110],[84,65,117,116,104],[82,65,117,116,104],[84,65,116,116,97,99,104],[82,65,116,116,97,99,104],[],[82,69,114,114,111,114],[84,70,108,117,115,104],[82,70,108,117,115,104],[84,87,97,108,107],[82,87,97,108,107],[84,79,112,101,110],[82,79,112,101,110],[84,67,114,101,97,116,101],[82,67,114,101,97,116,101],[84,82,101,97,100],[82,82,101,97,100],[84,87,114,105,116,101],[82,87,114,105,116,101],[84,67,108,117,110,107],[82,67,108,117,110,107],[84,82,101,109,111,118,101],[82,82,101,109,111,118,101],[84,83,116,97,116],[82,83,116,97,116],[84,87,115,116,97,116],[82,87,115,116,97,116],[84,76,101,97,115,101],[82,76,101,97,115,101],[84,82,101,115,117,109,101],[82,82,101,115,117,109,101]] (IntKind.wrap .i64 (kind1-100))).bind fun w4=>
  some w4)
def S57(F:Int→Option (Str)):Spec:=mkS 57 (α:=Int) (ρ:=Str) F (fun kind1=>([.pv (.int .i64 kind1)],[])) (fun kind1 r2=>.ret [.pv (.str r2)] [])
def F48(kind1:Int):Option Bool:=
 (guardO (decide (Int.tmod kind1 2=0)) (F57 kind1)).bind fun r3=>
 some (decide (Int.tmod kind1 2=0)&&!decide (r3=[]))
def S48(F:Int→Option (Bool)):Spec:=mkS 48 (α:=Int) (ρ:=Bool) F (fun kind1=>([.pv (.int .i64 kind1)],[])) (fun kind1 r2=>.ret [.pv (.bool r2)] [])
def F183_b1(s1:List Call)(again3:Unit→Option Int):Unit→Option Int:=fun _=>
 (bif decide (0<(s1.length:Int))then
   none
 else
  some (-1))
def F183(s1:List Call):Option Int:=
 iter (F183_b1 s1) BIG ()
def S183(F:(List Call)→Option (Int)):Spec:=mkS 183 (α:=(List Call)) (ρ:=Int) F (fun s1=>([.pv (.slice (List.map Call.pv s1)),.fn 111 []],[])) (fun s1 r2=>.ret [.pv (.int .i64 r2)] [])
def F110(s1:List Call):Option Bool:=
 (F183 s1).bind fun r3=>
 some (decide (0≤r3))
def S110(F:(List Call)→Option (Bool)):Spec:=mkS 110 (α:=(List Call)) (ρ:=Bool) F (fun s1=>([.pv (.slice (List.map Call.pv s1)),.fn 111 []],[])) (fun s1 r2=>.ret [.pv (.bool r2)] [])
def F49(l1:List Call):Option Bool:=
 (F110 l1).bind fun r3=>
 some r3
def S49(F:(List Call)→Option (Bool)):Spec:=mkS 49 (α:=(List Call)) (ρ:=Bool) F (fun l1=>([.pv (.slice (List.map Call.pv l1))],[])) (fun l1 r2=>.ret [.pv (.bool r2)] [])
def F50(m1:Msg):Option Msg:=
 (L_Clone m1.names_).bind fun l3=>
 (L_CloneQ m1.qids_).bind fun l6=>
 some (Msg.mk m1.kind_ m1.tag_ m1.fid_ m1.newFid_ m1.authFid_ m1.oldTag_ m1.msize_ m1.version_ m1.user_ m1.attach_ l3 l6 m1.qid_ m1.iounit_ m1.mode_ m1.perm_ m1.name_ m1.offset_ m1.count_ m1.data_ m1.stat_ m1.err_ m1.lease_ m1.term_ m1.session_)
def S50(F:Msg→Option (Msg)):Spec:=mkS 50 (α:=Msg) (ρ:=Msg) F (fun m1=>([.pv (.agg [.int .i64 m1.kind_,.int .i64 m1.tag_,.int .i64 m1.fid_,.int .i64 m1.newFid_,.int .i64 m1.authFid_,.int .i64 m1.oldTag_,.int .i64 m1.msize_,.str m1.version_,.str m1.user_,.str m1.attach_,.slice (List.map PV.str m1.names_),.slice (List.map Qid.pv m1.qids_),.int .i64 m1.qid_.type_,.int .i64 m1.qid_.vers_,.int .i64 m1.qid_.path_,.int .i64 m1.iounit_,.int .i64 m1.mode_,.int .i64 m1.perm_,.str m1.name_,.int .i64 m1.offset_,.int .i64 m1.count_,.str m1.data_,.int .i64 m1.stat_.type_,.int .i64 m1.stat_.dev_,.int .i64 m1.stat_.qid_.type_,.int .i64 m1.stat_.qid_.vers_,.int .i64 m1.stat_.qid_.path_,.int .i64 m1.stat_.mode_,.int .i64 m1.stat_.atime_,.int .i64 m1.stat_.mtime_,.int .i64 m1.stat_.length_,.str m1.stat_.name_,.str m1.stat_.uid_,.str m1.stat_.gid_,.str m1.stat_.muid_,.int .i64 m1.err_,.int .i64 m1.lease_,.int .i64 m1.term_,.str m1.session_])],[])) (fun m1 r2=>.ret [.pv (.agg [.int .i64 r2.kind_,.int .i64 r2.tag_,.int .i64 r2.fid_,.int .i64 r2.newFid_,.int .i64 r2.authFid_,.int .i64 r2.oldTag_,.int .i64 r2.msize_,.str r2.version_,.str r2.user_,.str r2.attach_,.slice (List.map PV.str r2.names_),.slice (List.map Qid.pv r2.qids_),.int .i64 r2.qid_.type_,.int .i64 r2.qid_.vers_,.int .i64 r2.qid_.path_,.int .i64 r2.iounit_,.int .i64 r2.mode_,.int .i64 r2.perm_,.str r2.name_,.int .i64 r2.offset_,.int .i64 r2.count_,.str r2.data_,.int .i64 r2.stat_.type_,.int .i64 r2.stat_.dev_,.int .i64 r2.stat_.qid_.type_,.int .i64 r2.stat_.qid_.vers_,.int .i64 r2.stat_.qid_.path_,.int .i64 r2.stat_.mode_,.int .i64 r2.stat_.atime_,.int .i64 r2.stat_.mtime_,.int .i64 r2.stat_.length_,.str r2.stat_.name_,.str r2.stat_.uid_,.str r2.stat_.gid_,.str r2.stat_.muid_,.int .i64 r2.err_,.int .i64 r2.lease_,.int .i64 r2.term_,.str r2.session_])] [])
def F183x1_b1(s1:List Call)(again4:Unit→Option Int):Unit→Option Int:=fun _=>
 (bif decide (0<(s1.length:Int))then
   none
 else
  some (-1))
def F183x1(s1:List Call)(x2:Int):Option Int:=
 iter (F183x1_b1 s1) BIG ()
def S183x1(F:(List Call)→Int→Option (Int)):Spec:=mkS 183 (α:=(List Call)×Int) (ρ:=Int) (fun(s1,x2)=>F s1 x2) (fun(s1,x2)=>([.pv (.slice (List.map Call.pv s1)),.fn 184 [0]],[.var [.pv (.int .i64 x2)]])) (fun(s1,x2) r3=>.ret [.pv (.int .i64 r3)] [.var [.pv (.int .i64 x2)]])
def F114(l1:List Call)(tag2:Int):Option Int:=
 (F183x1 l1 tag2).bind fun r4=>
 some r4
def S114(F:(List Call)→Int→Option (Int)):Spec:=mkS 114 (α:=(List Call)×Int) (ρ:=Int) (fun(l1,tag2)=>F l1 tag2) (fun(l1,tag2)=>([.pv (.slice (List.map Call.pv l1)),.pv (.int .i64 tag2)],[])) (fun(l1,tag2) r3=>.ret [.pv (.int .i64 r3)] [])
def F183x2_b1(s1:List Call)(again4:Unit→Option Int):Unit→Option Int:=fun _=>
 (bif decide (0<(s1.length:Int))then
   none
 else
  some (-1))
def F183x2(s1:List Call)(x2:Int):Option Int:=
 iter (F183x2_b1 s1) BIG ()
def S183x2(F:(List Call)→Int→Option (Int)):Spec:=mkS 183 (α:=(List Call)×Int) (ρ:=Int) (fun(s1,x2)=>F s1 x2) (fun(s1,x2)=>([.pv (.slice (List.map Call.pv s1)),.fn 185 [0]],[.var [.pv (.int .i64 x2)]])) (fun(s1,x2) r3=>.ret [.pv (.int .i64 r3)] [.var [.pv (.int .i64 x2)]])
def F115(l1:List Call)(tag2:Int):Option Int:=
 (F183x2 l1 tag2).bind fun r4=>
 (bif decide (r4<0)then
   some 65535
 else
  none)
def S115(F:(List Call)→Int→Option (Int)):Spec:=mkS 115 (α:=(List Call)×Int) (ρ:=Int) (fun(l1,tag2)=>F l1 tag2) (fun(l1,tag2)=>([.pv (.slice (List.map Call.pv l1)),.pv (.int .i64 tag2)],[])) (fun(l1,tag2) r3=>.ret [.pv (.int .i64 r3)] [])
def F51_b1(l1:List Call)(again3:Unit→Option Int):Unit→Option Int:=fun _=>
 (F114 l1 1).bind fun r6=>
 (guardO (!(decide (0≤r6))) (F115 l1 1)).bind fun r9=>
 (bif (decide (0≤r6)||!decide (r9=65535))then
   none
 else
  some 1)
def F51(l1:List Call):Option Int:=
 iter (F51_b1 l1) BIG ()
def S51(F:(List Call)→Option (Int)):Spec:=mkS 51 (α:=(List Call)) (ρ:=Int) F (fun l1=>([.pv (.slice (List.map Call.pv l1))],[])) (fun l1 r2=>.ret [.pv (.int .i64 r2)] [])
def F124(m1:Msg):Option Bool:=
 (bif decide (m1.kind_=100)then
   none
 else
  (bif decide (m1.kind_=101)then
    none
  else
   (bif decide (m1.kind_=107)then
     none
   else
    some (decide (0≤m1.tag_)&&decide (m1.tag_≤65534)))))
def S124(F:Msg→Option (Bool)):Spec:=mkS 124 (α:=Msg) (ρ:=Bool) F (fun m1=>([.pv (.agg [.int .i64 m1.kind_,.int .i64 m1.tag_,.int .i64 m1.fid_,.int .i64 m1.newFid_,.int .i64 m1.authFid_,.int .i64 m1.oldTag_,.int .i64 m1.msize_,.str m1.version_,.str m1.user_,.str m1.attach_,.slice (List.map PV.str m1.names_),.slice (List.map Qid.pv m1.qids_),.int .i64 m1.qid_.type_,.int .i64 m1.qid_.vers_,.int .i64 m1.qid_.path_,.int .i64 m1.iounit_,.int .i64 m1.mode_,.int .i64 m1.perm_,.str m1.name_,.int .i64 m1.offset_,.int .i64 m1.count_,.str m1.data_,.int .i64 m1.stat_.type_,.int .i64 m1.stat_.dev_,.int .i64 m1.stat_.qid_.type_,.int .i64 m1.stat_.qid_.vers_,.int .i64 m1.stat_.qid_.path_,.int .i64 m1.stat_.mode_,.int .i64 m1.stat_.atime_,.int .i64 m1.stat_.mtime_,.int .i64 m1.stat_.length_,.str m1.stat_.name_,.str m1.stat_.uid_,.str m1.stat_.gid_,.str m1.stat_.muid_,.int .i64 m1.err_,.int .i64 m1.lease_,.int .i64 m1.term_,.str m1.session_])],[])) (fun m1 r2=>.ret [.pv (.bool r2)] [])
def F196(m1:Msg)(out2:Msg):Option Msg:=
 (bif decide (m1.kind_=116)then
   none
 else
  (bif decide (m1.kind_=117)then
    none
  else
   (bif decide (m1.kind_=118)then
     none
   else
    (bif decide (m1.kind_=119)then
      none
    else
     (bif decide (m1.kind_=120)then
       (bif decide (m1.kind_=120)then
         some (Msg.mk out2.kind_ out2.tag_ m1.fid_ out2.newFid_ out2.authFid_ out2.oldTag_ out2.msize_ out2.version_ out2.user_ out2.attach_ out2.names_ out2.qids_ out2.qid_ out2.iounit_ out2.mode_ out2.perm_ out2.name_ out2.offset_ out2.count_ out2.data_ out2.stat_ out2.err_ out2.lease_ out2.term_ out2.session_)
       else
        none)
     else
      none)))))
def S196(F:Msg→Msg→Option (Msg)):Spec:=mkS 196 (α:=Msg×Msg) (ρ:=Msg) (fun(m1,out2)=>F m1 out2) (fun(m1,out2)=>([.pv (.agg [.int .i64 m1.kind_,.int .i64 m1.tag_,.int .i64 m1.fid_,.int .i64 m1.newFid_,.int .i64 m1.authFid_,.int .i64 m1.oldTag_,.int .i64 m1.msize_,.str m1.version_,.str m1.user_,.str m1.attach_,.slice (List.map PV.str m1.names_),.slice (List.map Qid.pv m1.qids_),.int .i64 m1.qid_.type_,.int .i64 m1.qid_.vers_,.int .i64 m1.qid_.path_,.int .i64 m1.iounit_,.int .i64 m1.mode_,.int .i64 m1.perm_,.str m1.name_,.int .i64 m1.offset_,.int .i64 m1.count_,.str m1.data_,.int .i64 m1.stat_.type_,.int .i64 m1.stat_.dev_,.int .i64 m1.stat_.qid_.type_,.int .i64 m1.stat_.qid_.vers_,.int .i64 m1.stat_.qid_.path_,.int .i64 m1.stat_.mode_,.int .i64 m1.stat_.atime_,.int .i64 m1.stat_.mtime_,.int .i64 m1.stat_.length_,.str m1.stat_.name_,.str m1.stat_.uid_,.str m1.stat_.gid_,.str m1.stat_.muid_,.int .i64 m1.err_,.int .i64 m1.lease_,.int .i64 m1.term_,.str m1.session_]),.pv (.agg [.int .i64 out2.kind_,.int .i64 out2.tag_,.int .i64 out2.fid_,.int .i64 out2.newFid_,.int .i64 out2.authFid_,.int .i64 out2.oldTag_,.int .i64 out2.msize_,.str out2.version_,.str out2.user_,.str out2.attach_,.slice (List.map PV.str out2.names_),.slice (List.map Qid.pv out2.qids_),.int .i64 out2.qid_.type_,.int .i64 out2.qid_.vers_,.int .i64 out2.qid_.path_,.int .i64 out2.iounit_,.int .i64 out2.mode_,.int .i64 out2.perm_,.str out2.name_,.int .i64 out2.offset_,.int .i64 out2.count_,.str out2.data_,.int .i64 out2.stat_.type_,.int .i64 out2.stat_.dev_,.int .i64 out2.stat_.qid_.type_,.int .i64 out2.stat_.qid_.vers_,.int .i64 out2.stat_.qid_.path_,.int .i64 out2.stat_.mode_,.int .i64 out2.stat_.atime_,.int .i64 out2.stat_.mtime_,.int .i64 out2.stat_.length_,.str out2.stat_.name_,.str out2.stat_.uid_,.str out2.stat_.gid_,.str out2.stat_.muid_,.int .i64 out2.err_,.int .i64 out2.lease_,.int .i64 out2.term_,.str out2.session_])],[])) (fun(m1,out2) r3=>.ret [.pv (.agg [.int .i64 r3.kind_,.int .i64 r3.tag_,.int .i64 r3.fid_,.int .i64 r3.newFid_,.int .i64 r3.authFid_,.int .i64 r3.oldTag_,.int .i64 r3.msize_,.str r3.version_,.str r3.user_,.str r3.attach_,.slice (List.map PV.str r3.names_),.slice (List.map Qid.pv r3.qids_),.int .i64 r3.qid_.type_,.int .i64 r3.qid_.vers_,.int .i64 r3.qid_.path_,.int .i64 r3.iounit_,.int .i64 r3.mode_,.int .i64 r3.perm_,.str r3.name_,.int .i64 r3.offset_,.int .i64 r3.count_,.str r3.data_,.int .i64 r3.stat_.type_,.int .i64 r3.stat_.dev_,.int .i64 r3.stat_.qid_.type_,.int .i64 r3.stat_.qid_.vers_,.int .i64 r3.stat_.qid_.path_,.int .i64 r3.stat_.mode_,.int .i64 r3.stat_.atime_,.int .i64 r3.stat_.mtime_,.int .i64 r3.stat_.length_,.str r3.stat_.name_,.str r3.stat_.uid_,.str r3.stat_.gid_,.str r3.stat_.muid_,.int .i64 r3.err_,.int .i64 r3.lease_,.int .i64 r3.term_,.str r3.session_])] [])
def F126(m1:Msg):Option Msg:=
 (bif decide (m1.kind_=100)then
   none
 else
  (bif decide (m1.kind_=101)then
    none
  else
   (bif decide (m1.kind_=102)then
     none
   else
    (bif decide (m1.kind_=104)then
      none
    else
     (bif decide (m1.kind_=103)then
       none
     else
      (bif decide (m1.kind_=105)then
        none
      else
       (bif decide (m1.kind_=107)then
         none
       else
        (bif decide (m1.kind_=108)then
          none
        else
         (bif decide (m1.kind_=110)then
           none
         else
          (bif decide (m1.kind_=111)then
            none
          else
           (bif decide (m1.kind_=112)then
             none
           else
            (bif decide (m1.kind_=113)then
              none
            else
             (bif decide (m1.kind_=115)then
               none
             else
              (bif decide (m1.kind_=114)then
                none
              else
               (F196 m1 (Msg.mk m1.kind_ m1.tag_ 0 0 0 0 0 [] [] [] [] [] (Qid.mk 0 0 0) 0 0 0 [] 0 0 [] (Dir.mk 0 0 (Qid.mk 0 0 0) 0 0 0 0 [] [] [] []) 0 0 0 [])).bind fun r17=>
               some r17))))))))))))))
def S126(F:Msg→Option (Msg)):Spec:=mkS 126 (α:=Msg) (ρ:=Msg) F (fun m1=>([.pv (.agg [.int .i64 m1.kind_,.int .i64 m1.tag_,.int .i64 m1.fid_,.int .i64 m1.newFid_,.int .i64 m1.authFid_,.int .i64 m1.oldTag_,.int .i64 m1.msize_,.str m1.version_,.str m1.user_,.str m1.attach_,.slice (List.map PV.str m1.names_),.slice (List.map Qid.pv m1.qids_),.int .i64 m1.qid_.type_,.int .i64 m1.qid_.vers_,.int .i64 m1.qid_.path_,.int .i64 m1.iounit_,.int .i64 m1.mode_,.int .i64 m1.perm_,.str m1.name_,.int .i64 m1.offset_,.int .i64 m1.count_,.str m1.data_,.int .i64 m1.stat_.type_,.int .i64 m1.stat_.dev_,.int .i64 m1.stat_.qid_.type_,.int .i64 m1.stat_.qid_.vers_,.int .i64 m1.stat_.qid_.path_,.int .i64 m1.stat_.mode_,.int .i64 m1.stat_.atime_,.int .i64 m1.stat_.mtime_,.int .i64 m1.stat_.length_,.str m1.stat_.name_,.str m1.stat_.uid_,.str m1.stat_.gid_,.str m1.stat_.muid_,.int .i64 m1.err_,.int .i64 m1.lease_,.int .i64 m1.term_,.str m1.session_])],[])) (fun m1 r2=>.ret [.pv (.agg [.int .i64 r2.kind_,.int .i64 r2.tag_,.int .i64 r2.fid_,.int .i64 r2.newFid_,.int .i64 r2.authFid_,.int .i64 r2.oldTag_,.int .i64 r2.msize_,.str r2.version_,.str r2.user_,.str r2.attach_,.slice (List.map PV.str r2.names_),.slice (List.map Qid.pv r2.qids_),.int .i64 r2.qid_.type_,.int .i64 r2.qid_.vers_,.int .i64 r2.qid_.path_,.int .i64 r2.iounit_,.int .i64 r2.mode_,.int .i64 r2.perm_,.str r2.name_,.int .i64 r2.offset_,.int .i64 r2.count_,.str r2.data_,.int .i64 r2.stat_.type_,.int .i64 r2.stat_.dev_,.int .i64 r2.stat_.qid_.type_,.int .i64 r2.stat_.qid_.vers_,.int .i64 r2.stat_.qid_.path_,.int .i64 r2.stat_.mode_,.int .i64 r2.stat_.atime_,.int .i64 r2.stat_.mtime_,.int .i64 r2.stat_.length_,.str r2.stat_.name_,.str r2.stat_.uid_,.str r2.stat_.gid_,.str r2.stat_.muid_,.int .i64 r2.err_,.int .i64 r2.lease_,.int .i64 r2.term_,.str r2.session_])] [])
def F192(m1:Msg):Option S274:=
 some (S274.mk m1.kind_ m1.tag_ m1.fid_ m1.newFid_ m1.authFid_ m1.oldTag_ m1.msize_ m1.iounit_ m1.mode_ m1.perm_ m1.offset_ m1.count_ m1.lease_)
def S192(F:Msg→Option (S274)):Spec:=mkS 192 (α:=Msg) (ρ:=S274) F (fun m1=>([.pv (.agg [.int .i64 m1.kind_,.int .i64 m1.tag_,.int .i64 m1.fid_,.int .i64 m1.newFid_,.int .i64 m1.authFid_,.int .i64 m1.oldTag_,.int .i64 m1.msize_,.str m1.version_,.str m1.user_,.str m1.attach_,.slice (List.map PV.str m1.names_),.slice (List.map Qid.pv m1.qids_),.int .i64 m1.qid_.type_,.int .i64 m1.qid_.vers_,.int .i64 m1.qid_.path_,.int .i64 m1.iounit_,.int .i64 m1.mode_,.int .i64 m1.perm_,.str m1.name_,.int .i64 m1.offset_,.int .i64 m1.count_,.str m1.data_,.int .i64 m1.stat_.type_,.int .i64 m1.stat_.dev_,.int .i64 m1.stat_.qid_.type_,.int .i64 m1.stat_.qid_.vers_,.int .i64 m1.stat_.qid_.path_,.int .i64 m1.stat_.mode_,.int .i64 m1.stat_.atime_,.int .i64 m1.stat_.mtime_,.int .i64 m1.stat_.length_,.str m1.stat_.name_,.str m1.stat_.uid_,.str m1.stat_.gid_,.str m1.stat_.muid_,.int .i64 m1.err_,.int .i64 m1.lease_,.int .i64 m1.term_,.str m1.session_])],[])) (fun m1 r2=>.ret [.pv (.agg [.int .i64 r2.e0_,.int .i64 r2.e1_,.int .i64 r2.e2_,.int .i64 r2.e3_,.int .i64 r2.e4_,.int .i64 r2.e5_,.int .i64 r2.e6_,.int .i64 r2.e7_,.int .i64 r2.e8_,.int .i64 r2.e9_,.int .i64 r2.e10_,.int .i64 r2.e11_,.int .i64 r2.e12_])] [])
def F193(m1:Msg):Option S276:=
 some (S276.mk m1.version_ m1.user_ m1.attach_ m1.name_ m1.data_ m1.session_)
def S193(F:Msg→Option (S276)):Spec:=mkS 193 (α:=Msg) (ρ:=S276) F (fun m1=>([.pv (.agg [.int .i64 m1.kind_,.int .i64 m1.tag_,.int .i64 m1.fid_,.int .i64 m1.newFid_,.int .i64 m1.authFid_,.int .i64 m1.oldTag_,.int .i64 m1.msize_,.str m1.version_,.str m1.user_,.str m1.attach_,.slice (List.map PV.str m1.names_),.slice (List.map Qid.pv m1.qids_),.int .i64 m1.qid_.type_,.int .i64 m1.qid_.vers_,.int .i64 m1.qid_.path_,.int .i64 m1.iounit_,.int .i64 m1.mode_,.int .i64 m1.perm_,.str m1.name_,.int .i64 m1.offset_,.int .i64 m1.count_,.str m1.data_,.int .i64 m1.stat_.type_,.int .i64 m1.stat_.dev_,.int .i64 m1.stat_.qid_.type_,.int .i64 m1.stat_.qid_.vers_,.int .i64 m1.stat_.qid_.path_,.int .i64 m1.stat_.mode_,.int .i64 m1.stat_.atime_,.int .i64 m1.stat_.mtime_,.int .i64 m1.stat_.length_,.str m1.stat_.name_,.str m1.stat_.uid_,.str m1.stat_.gid_,.str m1.stat_.muid_,.int .i64 m1.err_,.int .i64 m1.lease_,.int .i64 m1.term_,.str m1.session_])],[])) (fun m1 r2=>.ret [.pv (.agg [.str r2.e0_,.str r2.e1_,.str r2.e2_,.str r2.e3_,.str r2.e4_,.str r2.e5_])] [])
def F194_b1(s1x1:List Str)(again5:Unit→Option Bool):Unit→Option Bool:=fun _=>
 (bif decide (0<(s1x1.length:Int))then
   none
 else
  some true)
def F194(s1x1:List Str)(s2x2:List Str):Option Bool:=
 (bif !decide ((s1x1.length:Int)=(s2x2.length:Int))then
   none
 else
  iter (F194_b1 s1x1) BIG ())
def S194(F:(List Str)→(List Str)→Option (Bool)):Spec:=mkS 194 (α:=(List Str)×(List Str)) (ρ:=Bool) (fun(s1x1,s2x2)=>F s1x1 s2x2) (fun(s1x1,s2x2)=>([.pv (.slice (List.map PV.str s1x1)),.pv (.slice (List.map PV.str s2x2))],[])) (fun(s1x1,s2x2) r3=>.ret [.pv (.bool r3)] [])
def F195_b1(s1x1:List Qid)(again5:Unit→Option Bool):Unit→Option Bool:=fun _=>
 (bif decide (0<(s1x1.length:Int))then
   none
 else
  some true)
def F195(s1x1:List Qid)(s2x2:List Qid):Option Bool:=
 (bif !decide ((s1x1.length:Int)=(s2x2.length:Int))then
   none
 else
  iter (F195_b1 s1x1) BIG ())
def S195(F:(List Qid)→(List Qid)→Option (Bool)):Spec:=mkS 195 (α:=(List Qid)×(List Qid)) (ρ:=Bool) (fun(s1x1,s2x2)=>F s1x1 s2x2) (fun(s1x1,s2x2)=>([.pv (.slice (List.map Qid.pv s1x1)),.pv (.slice (List.map Qid.pv s2x2))],[])) (fun(s1x1,s2x2) r3=>.ret [.pv (.bool r3)] [])
def F125(a1:Msg)(b2:Msg):Option Bool:=
 (F192 a1).bind fun r4=>
 (F192 b2).bind fun r7=>
 (bif (decide (r4.e0_=r7.e0_)&&(decide (r4.e1_=r7.e1_)&&(decide (r4.e2_=r7.e2_)&&(decide (r4.e3_=r7.e3_)&&(decide (r4.e4_=r7.e4_)&&(decide (r4.e5_=r7.e5_)&&(decide (r4.e6_=r7.e6_)&&(decide (r4.e7_=r7.e7_)&&(decide (r4.e8_=r7.e8_)&&(decide (r4.e9_=r7.e9_)&&(decide (r4.e10_=r7.e10_)&&(decide (r4.e11_=r7.e11_)&&(decide (r4.e12_=r7.e12_))))))))))))))then
   (F193 a1).bind fun r10=>
   (F193 b2).bind fun r13=>
   (bif (decide (r10.e0_=r13.e0_)&&(decide (r10.e1_=r13.e1_)&&(decide (r10.e2_=r13.e2_)&&(decide (r10.e3_=r13.e3_)&&(decide (r10.e4_=r13.e4_)&&(decide (r10.e5_=r13.e5_)))))))then
     (bif decide (a1.term_=b2.term_)then
       (bif decide (a1.err_=b2.err_)then
         (bif (decide (a1.qid_.type_=b2.qid_.type_)&&(decide (a1.qid_.vers_=b2.qid_.vers_)&&(decide (a1.qid_.path_=b2.qid_.path_))))then
           (bif (decide (a1.stat_.type_=b2.stat_.type_)&&(decide (a1.stat_.dev_=b2.stat_.dev_)&&(decide (a1.stat_.qid_.type_=b2.stat_.qid_.type_)&&(decide (a1.stat_.qid_.vers_=b2.stat_.qid_.vers_)&&(decide (a1.stat_.qid_.path_=b2.stat_.qid_.path_)&&(decide (a1.stat_.mode_=b2.stat_.mode_)&&(decide (a1.stat_.atime_=b2.stat_.atime_)&&(decide (a1.stat_.mtime_=b2.stat_.mtime_)&&(decide (a1.stat_.length_=b2.stat_.length_)&&(decide (a1.stat_.name_=b2.stat_.name_)&&(decide (a1.stat_.uid_=b2.stat_.uid_)&&(decide (a1.stat_.gid_=b2.stat_.gid_)&&(decide (a1.stat_.muid_=b2.stat_.muid_))))))))))))))then
             (F194 a1.names_ b2.names_).bind fun r16=>
             (bif r16 then
               (F195 a1.qids_ b2.qids_).bind fun r19=>
               some r19
             else
              none)
           else
            none)
         else
          none)
       else
        none)
     else
      none)
   else
    none)
 else
  none)
def S125(F:Msg→Msg→Option (Bool)):Spec:=mkS 125 (α:=Msg×Msg) (ρ:=Bool) (fun(a1,b2)=>F a1 b2) (fun(a1,b2)=>([.pv (.agg [.int .i64 a1.kind_,.int .i64 a1.tag_,.int .i64 a1.fid_,.int .i64 a1.newFid_,.int .i64 a1.authFid_,.int .i64 a1.oldTag_,.int .i64 a1.msize_,.str a1.version_,.str a1.user_,.str a1.attach_,.slice (List.map PV.str a1.names_),.slice (List.map Qid.pv a1.qids_),.int .i64 a1.qid_.type_,.int .i64 a1.qid_.vers_,.int .i64 a1.qid_.path_,.int .i64 a1.iounit_,.int .i64 a1.mode_,.int .i64 a1.perm_,.str a1.name_,.int .i64 a1.offset_,.int .i64 a1.count_,.str a1.data_,.int .i64 a1.stat_.type_,.int .i64 a1.stat_.dev_,.int .i64 a1.stat_.qid_.type_,.int .i64 a1.stat_.qid_.vers_,.int .i64 a1.stat_.qid_.path_,.int .i64 a1.stat_.mode_,.int .i64 a1.stat_.atime_,.int .i64 a1.stat_.mtime_,.int .i64 a1.stat_.length_,.str a1.stat_.name_,.str a1.stat_.uid_,.str a1.stat_.gid_,.str a1.stat_.muid_,.int .i64 a1.err_,.int .i64 a1.lease_,.int .i64 a1.term_,.str a1.session_]),.pv (.agg [.int .i64 b2.kind_,.int .i64 b2.tag_,.int .i64 b2.fid_,.int .i64 b2.newFid_,.int .i64 b2.authFid_,.int .i64 b2.oldTag_,.int .i64 b2.msize_,.str b2.version_,.str b2.user_,.str b2.attach_,.slice (List.map PV.str b2.names_),.slice (List.map Qid.pv b2.qids_),.int .i64 b2.qid_.type_,.int .i64 b2.qid_.vers_,.int .i64 b2.qid_.path_,.int .i64 b2.iounit_,.int .i64 b2.mode_,.int .i64 b2.perm_,.str b2.name_,.int .i64 b2.offset_,.int .i64 b2.count_,.str b2.data_,.int .i64 b2.stat_.type_,.int .i64 b2.stat_.dev_,.int .i64 b2.stat_.qid_.type_,.int .i64 b2.stat_.qid_.vers_,.int .i64 b2.stat_.qid_.path_,.int .i64 b2.stat_.mode_,.int .i64 b2.stat_.atime_,.int .i64 b2.stat_.mtime_,.int .i64 b2.stat_.length_,.str b2.stat_.name_,.str b2.stat_.uid_,.str b2.stat_.gid_,.str b2.stat_.muid_,.int .i64 b2.err_,.int .i64 b2.lease_,.int .i64 b2.term_,.str b2.session_])],[])) (fun(a1,b2) r3=>.ret [.pv (.bool r3)] [])
def F198(n1:Int)(lo2:Int)(hi3:Int):Option Int:=
 (bif (decide (n1<lo2)||decide (hi3<n1))then
   none
 else
  some 0)
def S198(F:Int→Int→Int→Option (Int)):Spec:=mkS 198 (α:=Int×Int×Int) (ρ:=Int) (fun(n1,lo2,hi3)=>F n1 lo2 hi3) (fun(n1,lo2,hi3)=>([.pv (.int .i64 n1),.pv (.int .i64 lo2),.pv (.int .i64 hi3)],[])) (fun(n1,lo2,hi3) r4=>.ret [.pv (.int .i64 r4)] [])
def F200(n1:Int):Option Int:=
 (F198 n1 0 4294967294).bind fun r3=>
 some r3
def S200(F:Int→Option (Int)):Spec:=mkS 200 (α:=Int) (ρ:=Int) F (fun n1=>([.pv (.int .i64 n1)],[])) (fun n1 r2=>.ret [.pv (.int .i64 r2)] [])
def F127(m1:Msg):Option Int:=
 (bif decide (m1.kind_=100)then
   none
 else
  (bif decide (m1.kind_=101)then
    none
  else
   (bif decide (m1.kind_=102)then
     none
   else
    (bif decide (m1.kind_=104)then
      none
    else
     (bif decide (m1.kind_=103)then
       none
     else
      (bif decide (m1.kind_=105)then
        none
      else
       (bif decide (m1.kind_=113)then
         none
       else
        (bif decide (m1.kind_=115)then
          none
        else
         (bif decide (m1.kind_=107)then
           none
         else
          (bif decide (m1.kind_=108)then
            none
          else
           (bif decide (m1.kind_=110)then
             none
           else
            (bif decide (m1.kind_=111)then
              none
            else
             (bif decide (m1.kind_=112)then
               none
             else
              (bif decide (m1.kind_=114)then
                none
              else
               (bif decide (m1.kind_=117)then
                 none
               else
                (bif decide (m1.kind_=119)then
                  none
                else
                 (bif decide (m1.kind_=116)then
                   none
                 else
                  (bif decide (m1.kind_=118)then
                    none
                  else
                   (bif decide (m1.kind_=125)then
                     none
                   else
                    (bif decide (m1.kind_=126)then
                      none
                    else
                     (bif decide (m1.kind_=128)then
                       none
                     else
                      (bif decide (m1.kind_=129)then
                        none
                      else
                       (bif decide (m1.kind_=130)then
                         none
                       else
                        (F200 m1.fid_).bind fun r26=>
                        some r26)))))))))))))))))))))))
def S127(F:Msg→Option (Int)):Spec:=mkS 127 (α:=Msg) (ρ:=Int) F (fun m1=>([.pv (.agg [.int .i64 m1.kind_,.int .i64 m1.tag_,.int .i64 m1.fid_,.int .i64 m1.newFid_,.int .i64 m1.authFid_,.int .i64 m1.oldTag_,.int .i64 m1.msize_,.str m1.version_,.str m1.user_,.str m1.attach_,.slice (List.map PV.str m1.names_),.slice (List.map Qid.pv m1.qids_),.int .i64 m1.qid_.type_,.int .i64 m1.qid_.vers_,.int .i64 m1.qid_.path_,.int .i64 m1.iounit_,.int .i64 m1.mode_,.int .i64 m1.perm_,.str m1.name_,.int .i64 m1.offset_,.int .i64 m1.count_,.str m1.data_,.int .i64 m1.stat_.type_,.int .i64 m1.stat_.dev_,.int .i64 m1.stat_.qid_.type_,.int .i64 m1.stat_.qid_.vers_,.int .i64 m1.stat_.qid_.path_,.int .i64 m1.stat_.mode_,.int .i64 m1.stat_.atime_,.int .i64 m1.stat_.mtime_,.int .i64 m1.stat_.length_,.str m1.stat_.name_,.str m1.stat_.uid_,.str m1.stat_.gid_,.str m1.stat_.muid_,.int .i64 m1.err_,.int .i64 m1.lease_,.int .i64 m1.term_,.str m1.session_])],[])) (fun m1 r2=>.ret [.pv (.int .i64 r2)] [])
def F58(m1:Msg):Option Int:=
 (F57 m1.kind_).bind fun r3=>
 (bif decide (r3=[])then
   none
 else
  (F124 m1).bind fun r7=>
  (bif !r7 then
    none
  else
   (F126 m1).bind fun r11=>
   (F125 r11 m1).bind fun r14=>
   (bif !r14 then
     none
   else
    (F127 m1).bind fun r18=>
    some r18)))
def S58(F:Msg→Option (Int)):Spec:=mkS 58 (α:=Msg) (ρ:=Int) F (fun m1=>([.pv (.agg [.int .i64 m1.kind_,.int .i64 m1.tag_,.int .i64 m1.fid_,.int .i64 m1.newFid_,.int .i64 m1.authFid_,.int .i64 m1.oldTag_,.int .i64 m1.msize_,.str m1.version_,.str m1.user_,.str m1.attach_,.slice (List.map PV.str m1.names_),.slice (List.map Qid.pv m1.qids_),.int .i64 m1.qid_.type_,.int .i64 m1.qid_.vers_,.int .i64 m1.qid_.path_,.int .i64 m1.iounit_,.int .i64 m1.mode_,.int .i64 m1.perm_,.str m1.name_,.int .i64 m1.offset_,.int .i64 m1.count_,.str m1.data_,.int .i64 m1.stat_.type_,.int .i64 m1.stat_.dev_,.int .i64 m1.stat_.qid_.type_,.int .i64 m1.stat_.qid_.vers_,.int .i64 m1.stat_.qid_.path_,.int .i64 m1.stat_.mode_,.int .i64 m1.stat_.atime_,.int .i64 m1.stat_.mtime_,.int .i64 m1.stat_.length_,.str m1.stat_.name_,.str m1.stat_.uid_,.str m1.stat_.gid_,.str m1.stat_.muid_,.int .i64 m1.err_,.int .i64 m1.lease_,.int .i64 m1.term_,.str m1.session_])],[])) (fun m1 r2=>.ret [.pv (.int .i64 r2)] [])
def F188_b1(width2:Int)(n1:Int)(again15:(Int×(List Int))→Option (Str×Int)):(Int×(List Int))→Option (Str×Int):=fun(i13,l14)=>
 (bif decide (i13<((List.replicate (Int.toNat width2) (0:Int)).length:Int))then
   (shrO .i64 .i64 n1 (IntKind.wrap .i64 (8 * i13))).bind fun n19=>
   (lidx l14 i13).bind fun n22=>
   again15 (IntKind.wrap .i64 (i13+1),List.set l14 (Int.toNat i13) (IntKind.wrap .u8 n19))
 else
  (bytesO l14).bind fun s25=>
  some (s25,0))
def F188(n1:Int)(width2:Int):Option (Str×Int):=
 (bif (decide (width2<1)||decide (8<width2))then
   none
 else
  (guardO (!(decide (n1<0))&&decide (width2<8)) (shrO .i64 .i64 n1 (IntKind.wrap .i64 (8 * width2)))).bind fun n6=>
  (bif (decide (n1<0)||(decide (width2<8)&&decide (0<n6)))then
    none
  else
   (mkO 1 width2).bind fun u10=>
   iter (F188_b1 width2 n1) BIG (0,List.replicate (Int.toNat width2) (0:Int))))
def S188(F:Int→Int→Option (Str×Int)):Spec:=mkS 188 (α:=Int×Int) (ρ:=Str×Int) (fun(n1,width2)=>F n1 width2) (fun(n1,width2)=>([.pv (.int .i64 n1),.pv (.int .i64 width2)],[])) (fun(n1,width2) (r3,r4)=>.ret [.pv (.str r3),.pv (.int .i64 r4)] [])
def F249(s1:Str)(e2:Int)(x3:Str)(x4:Int):Option (Str×Int):=
 (bif decide (x4=0)then
   (catO x3 s1).bind fun s8=>
   some (s8,e2)
 else
  none)
def S249(F:Str→Int→Str→Int→Option (Str×Int)):Spec:=mkS 249 (α:=Str×Int×Str×Int) (ρ:=Str×Int) (fun(s1,e2,x3,x4)=>F s1 e2 x3 x4) (fun(s1,e2,x3,x4)=>([.ref 0 0,.pv (.str s1),.pv (.int .i64 e2)],[.var [.pv (.str x3),.pv (.int .i64 x4)]])) (fun(s1,e2,x3,x4) (x5,x6)=>.ret [] [.var [.pv (.str x5),.pv (.int .i64 x6)]])
def F186(n1:Int)(width2:Int)(x3:Str)(x4:Int):Option (Str×Int):=
 (F188 n1 width2).bind fun(r7,r8)=>
 (F249 r7 r8 x3 x4).bind fun(x11,x12)=>
 some (x11,x12)
def S186(F:Int→Int→Str→Int→Option (Str×Int)):Spec:=mkS 186 (α:=Int×Int×Str×Int) (ρ:=Str×Int) (fun(n1,width2,x3,x4)=>F n1 width2 x3 x4) (fun(n1,width2,x3,x4)=>([.ref 0 0,.pv (.int .i64 n1),.pv (.int .i64 width2)],[.var [.pv (.str x3),.pv (.int .i64 x4)]])) (fun(n1,width2,x3,x4) (x5,x6)=>.ret [] [.var [.pv (.str x5),.pv (.int .i64 x6)]])
def F55(kind1:Int):Option Str:=
 (bif decide (kind1=100)then
   none
 else
  (bif decide (kind1=101)then
    none
  else
   (bif decide (kind1=102)then
     none
   else
    (bif decide (kind1=103)then
      none
    else
     (bif decide (kind1=105)then
       none
     else
      (bif decide (kind1=104)then
        none
      else
       (bif decide (kind1=107)then
         none
       else
        (bif decide (kind1=108)then
          none
        else
         (bif decide (kind1=110)then
           none
         else
          (bif decide (kind1=111)then
            none
          else
           (bif decide (kind1=112)then
             none
           else
            (bif decide (kind1=113)then
              none
            else
             (bif decide (kind1=115)then
               none
             else
              (bif decide (kind1=114)then
                none
              else
               (bif decide (kind1=116)then
                 none
               else
                (bif decide (kind1=117)then
                  none
                else
                 (bif decide (kind1=118)then
                   none
                 else
                  (bif decide (kind1=119)then
                    none
                  else
                   (bif decide (kind1=120)then
                     (bif decide (kind1=120)then
                       some [102]
                     else
                      none)
                   else
                    none)))))))))))))))))))
def S55(F:Int→Option (Str)):Spec:=mkS 55 (α:=Int) (ρ:=Str) F (fun kind1=>([.pv (.int .i64 kind1)],[])) (fun kind1 r2=>.ret [.pv (.str r2)] [])
def F187(m1:Msg)(letter2:Int)(x3:Str)(x4:Int):Option (Str×Int):=
 (bif decide (letter2=109)then
   none
 else
  (bif decide (letter2=118)then
    none
  else
   (bif decide (letter2=115)then
     none
   else
    (bif decide (letter2=97)then
      none
    else
     (bif decide (letter2=117)then
       none
     else
      (bif decide (letter2=120)then
        none
      else
       (bif decide (letter2=113)then
         none
       else
        (bif decide (letter2=102)then
          (F186 m1.fid_ 4 x3 x4).bind fun(x15,x16)=>
          some (x15,x16)
        else
         none))))))))
def S187(F:Msg→Int→Str→Int→Option (Str×Int)):Spec:=mkS 187 (α:=Msg×Int×Str×Int) (ρ:=Str×Int) (fun(m1,letter2,x3,x4)=>F m1 letter2 x3 x4) (fun(m1,letter2,x3,x4)=>([.ref 0 0,.pv (.agg [.int .i64 m1.kind_,.int .i64 m1.tag_,.int .i64 m1.fid_,.int .i64 m1.newFid_,.int .i64 m1.authFid_,.int .i64 m1.oldTag_,.int .i64 m1.msize_,.str m1.version_,.str m1.user_,.str m1.attach_,.slice (List.map PV.str m1.names_),.slice (List.map Qid.pv m1.qids_),.int .i64 m1.qid_.type_,.int .i64 m1.qid_.vers_,.int .i64 m1.qid_.path_,.int .i64 m1.iounit_,.int .i64 m1.mode_,.int .i64 m1.perm_,.str m1.name_,.int .i64 m1.offset_,.int .i64 m1.count_,.str m1.data_,.int .i64 m1.stat_.type_,.int .i64 m1.stat_.dev_,.int .i64 m1.stat_.qid_.type_,.int .i64 m1.stat_.qid_.vers_,.int .i64 m1.stat_.qid_.path_,.int .i64 m1.stat_.mode_,.int .i64 m1.stat_.atime_,.int .i64 m1.stat_.mtime_,.int .i64 m1.stat_.length_,.str m1.stat_.name_,.str m1.stat_.uid_,.str m1.stat_.gid_,.str m1.stat_.muid_,.int .i64 m1.err_,.int .i64 m1.lease_,.int .i64 m1.term_,.str m1.session_]),.pv (.int .u8 letter2)],[.var [.pv (.str x3),.pv (.int .i64 x4)]])) (fun(m1,letter2,x3,x4) (x5,x6)=>.ret [] [.var [.pv (.str x5),.pv (.int .i64 x6)]])
def F116_b1(r18:Str)(m1:Msg)(again24:(Int×Str×Int)→Option (Str×Int)):(Int×Str×Int)→Option (Str×Int):=fun(i21,x22,x23)=>
 (bif decide (i21<(r18.length:Int))then
   (sidx r18 i21).bind fun c28=>
   (F187 m1 c28 x22 x23).bind fun(x31,x32)=>
   again24 (IntKind.wrap .i64 (i21+1),x31,x32)
 else
  (bif !decide (x23=0)then
    none
  else
   (bif decide (8192<IntKind.wrap .i64 ((x22.length:Int)+4))then
     none
   else
    (F188 (IntKind.wrap .i64 ((x22.length:Int)+4)) 4).bind fun(r38,r39)=>
    (catO r38 x22).bind fun s42=>
    some (s42,0))))
def F116(m1:Msg):Option (Str×Int):=
 (F58 m1).bind fun r4=>
 (bif !decide (r4=0)then
   none
 else
  (F186 m1.kind_ 1 [] 0).bind fun(x8,x9)=>
  (F186 m1.tag_ 2 x8 x9).bind fun(x13,x14)=>
  (F55 m1.kind_).bind fun r18=>
  iter (F116_b1 r18 m1) BIG (0,x13,x14))
def S116(F:Msg→Option (Str×Int)):Spec:=mkS 116 (α:=Msg) (ρ:=Str×Int) F (fun m1=>([.pv (.agg [.int .i64 m1.kind_,.int .i64 m1.tag_,.int .i64 m1.fid_,.int .i64 m1.newFid_,.int .i64 m1.authFid_,.int .i64 m1.oldTag_,.int .i64 m1.msize_,.str m1.version_,.str m1.user_,.str m1.attach_,.slice (List.map PV.str m1.names_),.slice (List.map Qid.pv m1.qids_),.int .i64 m1.qid_.type_,.int .i64 m1.qid_.vers_,.int .i64 m1.qid_.path_,.int .i64 m1.iounit_,.int .i64 m1.mode_,.int .i64 m1.perm_,.str m1.name_,.int .i64 m1.offset_,.int .i64 m1.count_,.str m1.data_,.int .i64 m1.stat_.type_,.int .i64 m1.stat_.dev_,.int .i64 m1.stat_.qid_.type_,.int .i64 m1.stat_.qid_.vers_,.int .i64 m1.stat_.qid_.path_,.int .i64 m1.stat_.mode_,.int .i64 m1.stat_.atime_,.int .i64 m1.stat_.mtime_,.int .i64 m1.stat_.length_,.str m1.stat_.name_,.str m1.stat_.uid_,.str m1.stat_.gid_,.str m1.stat_.muid_,.int .i64 m1.err_,.int .i64 m1.lease_,.int .i64 m1.term_,.str m1.session_])],[])) (fun m1 (r2,r3)=>.ret [.pv (.str r2),.pv (.int .i64 r3)] [])
def F52(c1:Client)(m2:Msg):Option (Str×Int):=
 (F116 m2).bind fun(r5,r6)=>
 (bif !decide (r6=0)then
   none
 else
  (bif (!decide (c1.msize_=0)&&decide (c1.msize_<(r5.length:Int)))then
    none
  else
   some (r5,0)))
def S52(F:Client→Msg→Option (Str×Int)):Spec:=mkS 52 (α:=Client×Msg) (ρ:=Str×Int) (fun(c1,m2)=>F c1 m2) (fun(c1,m2)=>([.pv (.agg [.bool c1.up_,.int .i64 c1.msize_,.str c1.session_,.slice (List.map (PV.int .i64) c1.fids_),.slice (List.map Call.pv c1.calls_),.str c1.partial_]),.pv (.agg [.int .i64 m2.kind_,.int .i64 m2.tag_,.int .i64 m2.fid_,.int .i64 m2.newFid_,.int .i64 m2.authFid_,.int .i64 m2.oldTag_,.int .i64 m2.msize_,.str m2.version_,.str m2.user_,.str m2.attach_,.slice (List.map PV.str m2.names_),.slice (List.map Qid.pv m2.qids_),.int .i64 m2.qid_.type_,.int .i64 m2.qid_.vers_,.int .i64 m2.qid_.path_,.int .i64 m2.iounit_,.int .i64 m2.mode_,.int .i64 m2.perm_,.str m2.name_,.int .i64 m2.offset_,.int .i64 m2.count_,.str m2.data_,.int .i64 m2.stat_.type_,.int .i64 m2.stat_.dev_,.int .i64 m2.stat_.qid_.type_,.int .i64 m2.stat_.qid_.vers_,.int .i64 m2.stat_.qid_.path_,.int .i64 m2.stat_.mode_,.int .i64 m2.stat_.atime_,.int .i64 m2.stat_.mtime_,.int .i64 m2.stat_.length_,.str m2.stat_.name_,.str m2.stat_.uid_,.str m2.stat_.gid_,.str m2.stat_.muid_,.int .i64 m2.err_,.int .i64 m2.lease_,.int .i64 m2.term_,.str m2.session_])],[])) (fun(c1,m2) (r3,r4)=>.ret [.pv (.str r3),.pv (.int .i64 r4)] [])
def F16(c1:Client)(m2:Msg):Option (Client×Int×Str×Int):=
 (F47 c1).bind fun(up7,msize8,session9,r10,r11,partial12)=>
 (bif !c1.up_ then
   none
 else
  (F48 m2.kind_).bind fun r17=>
  (bif (!r17||decide (m2.kind_=108))then
    none
  else
   (F49 c1.calls_).bind fun r21=>
   (bif (r21||(decide (m2.kind_=100)&&decide (0<(c1.calls_.length:Int))))then
     none
   else
    (bif decide (64≤(c1.calls_.length:Int))then
      none
    else
     (F50 m2).bind fun r26=>
     (bif !(decide (m2.kind_=100))then
       (F51 c1.calls_).bind fun r30=>
       (F52 c1 (Msg.mk r26.kind_ r30 r26.fid_ r26.newFid_ r26.authFid_ r26.oldTag_ r26.msize_ r26.version_ r26.user_ r26.attach_ r26.names_ r26.qids_ r26.qid_ r26.iounit_ r26.mode_ r26.perm_ r26.name_ r26.offset_ r26.count_ r26.data_ r26.stat_ r26.err_ r26.lease_ r26.term_ r26.session_)).bind fun(r33,r34)=>
       (bif !decide (r34=0)then
         none
       else
        (appO 432 r11 [Call.mk (Msg.mk r26.kind_ r30 r26.fid_ r26.newFid_ r26.authFid_ r26.oldTag_ r26.msize_ r26.version_ r26.user_ r26.attach_ r26.names_ r26.qids_ r26.qid_ r26.iounit_ r26.mode_ r26.perm_ r26.name_ r26.offset_ r26.count_ r26.data_ r26.stat_ r26.err_ r26.lease_ r26.term_ r26.session_) 65535]).bind fun out38=>
        some (Client.mk up7 msize8 session9 r10 out38 partial12,r30,r33,0))
     else
      none)))))
def S16(F:Client→Msg→Option (Client×Int×Str×Int)):Spec:=mkS 16 (α:=Client×Msg) (ρ:=Client×Int×Str×Int) (fun(c1,m2)=>F c1 m2) (fun(c1,m2)=>([.pv (.agg [.bool c1.up_,.int .i64 c1.msize_,.str c1.session_,.slice (List.map (PV.int .i64) c1.fids_),.slice (List.map Call.pv c1.calls_),.str c1.partial_]),.pv (.agg [.int .i64 m2.kind_,.int .i64 m2.tag_,.int .i64 m2.fid_,.int .i64 m2.newFid_,.int .i64 m2.authFid_,.int .i64 m2.oldTag_,.int .i64 m2.msize_,.str m2.version_,.str m2.user_,.str m2.attach_,.slice (List.map PV.str m2.names_),.slice (List.map Qid.pv m2.qids_),.int .i64 m2.qid_.type_,.int .i64 m2.qid_.vers_,.int .i64 m2.qid_.path_,.int .i64 m2.iounit_,.int .i64 m2.mode_,.int .i64 m2.perm_,.str m2.name_,.int .i64 m2.offset_,.int .i64 m2.count_,.str m2.data_,.int .i64 m2.stat_.type_,.int .i64 m2.stat_.dev_,.int .i64 m2.stat_.qid_.type_,.int .i64 m2.stat_.qid_.vers_,.int .i64 m2.stat_.qid_.path_,.int .i64 m2.stat_.mode_,.int .i64 m2.stat_.atime_,.int .i64 m2.stat_.mtime_,.int .i64 m2.stat_.length_,.str m2.stat_.name_,.str m2.stat_.uid_,.str m2.stat_.gid_,.str m2.stat_.muid_,.int .i64 m2.err_,.int .i64 m2.lease_,.int .i64 m2.term_,.str m2.session_])],[])) (fun(c1,m2) (r3,r4,r5,r6)=>.ret [.pv (.agg [.bool r3.up_,.int .i64 r3.msize_,.str r3.session_,.slice (List.map (PV.int .i64) r3.fids_),.slice (List.map Call.pv r3.calls_),.str r3.partial_]),.pv (.int .i64 r4),.pv (.str r5),.pv (.int .i64 r6)] [])
def F53_b1(s1:Str)(at2:Int)(width3:Int)(again11:(Int×Int)→Option (Int×Int×Int)):(Int×Int)→Option (Int×Int×Int):=fun(n9,i10)=>
 (bif decide (0≤i10)then
   (shlO .u64 .u64 n9 8).bind fun n15=>
   (sidx s1 (IntKind.wrap .i64 (at2+i10))).bind fun c18=>
   again11 (bits .or .u64 n15 (IntKind.wrap .u64 c18),IntKind.wrap .i64 (i10-1))
 else
  (bif decide (9223372036854775807<n9)then
    none
  else
   some (IntKind.wrap .i64 n9,IntKind.wrap .i64 (at2+width3),0)))
def F53(s1:Str)(at2:Int)(width3:Int):Option (Int×Int×Int):=
 (bif (((decide (width3<1)||decide (8<width3))||decide (at2<0))||decide ((s1.length:Int)<at2))then
   none
 else
  (bif decide (IntKind.wrap .i64 ((s1.length:Int)-at2)<width3)then
    none
  else
   iter (F53_b1 s1 at2 width3) BIG (0,IntKind.wrap .i64 (width3-1))))
def S53(F:Str→Int→Int→Option (Int×Int×Int)):Spec:=mkS 53 (α:=Str×Int×Int) (ρ:=Int×Int×Int) (fun(s1,at2,width3)=>F s1 at2 width3) (fun(s1,at2,width3)=>([.pv (.str s1),.pv (.int .i64 at2),.pv (.int .i64 width3)],[])) (fun(s1,at2,width3) (r4,r5,r6)=>.ret [.pv (.int .i64 r4),.pv (.int .i64 r5),.pv (.int .i64 r6)] [])
def F54(width1:Int)(x2:Str)(x3:Int)(x4:Bool):Option (Int×Int):=
 (bif !x4 then
   none
 else
  (F53 x2 x3 width1).bind fun(r8,r9,r10)=>
  (bif !decide (r10=0)then
    none
  else
   some (r8,r9)))
def S54(F:Int→Str→Int→Bool→Option (Int×Int)):Spec:=mkS 54 (α:=Int×Str×Int×Bool) (ρ:=Int×Int) (fun(width1,x2,x3,x4)=>F width1 x2 x3 x4) (fun(width1,x2,x3,x4)=>([.ref 0 0,.pv (.int .i64 width1)],[.var [.pv (.str x2),.pv (.int .i64 x3),.pv (.bool x4)]])) (fun(width1,x2,x3,x4) (r5,x6)=>.ret [.pv (.int .i64 r5)] [.var [.pv (.str x2),.pv (.int .i64 x6),.pv (.bool x4)]])
def F56(letter1:Int)(x2:Str)(x3:Int)(x4:Bool)(x5:Int)(x6:Int)(x7:Int)(x8:Int)(x9:Int)(x10:Int)(x11:Int)(x12:Str)(x13:Str)(x14:Str)(x15:List Str)(x16:List Qid)(x17:Int)(x18:Int)(x19:Int)(x20:Int)(x21:Int)(x22:Int)(x23:Str)(x24:Int)(x25:Int)(x26:Str)(x27:Int)(x28:Int)(x29:Int)(x30:Int)(x31:Int)(x32:Int)(x33:Int)(x34:Int)(x35:Int)(x36:Str)(x37:Str)(x38:Str)(x39:Str)(x40:Int)(x41:Int)(x42:Int)(x43:Str):Option (Int×Int):=
 (bif decide (letter1=109)then
   none
 else
  (bif decide (letter1=118)then
    none
  else
   (bif decide (letter1=115)then
     none
   else
    (bif decide (letter1=97)then
      none
    else
     (bif decide (letter1=117)then
       none
     else
      (bif decide (letter1=120)then
        none
      else
       (bif decide (letter1=113)then
         none
       else
        (bif decide (letter1=102)then
          (F54 4 x2 x3 x4).bind fun(r54,x55)=>
          some (x55,r54)
        else
         none))))))))
def S56(F:Int→Str→Int→Bool→Int→Int→Int→Int→Int→Int→Int→Str→Str→Str→(List Str)→(List Qid)→Int→Int→Int→Int→Int→Int→Str→Int→Int→Str→Int→Int→Int→Int→Int→Int→Int→Int→Int→Str→Str→Str→Str→Int→Int→Int→Str→Option (Int×Int)):Spec:=mkS 56 (α:=Int×Str×Int×Bool×Int×Int×Int×Int×Int×Int×Int×Str×Str×Str×(List Str)×(List Qid)×Int×Int×Int×Int×Int×Int×Str×Int×Int×Str×Int×Int×Int×Int×Int×Int×Int×Int×Int×Str×Str×Str×Str×Int×Int×Int×Str) (ρ:=Int×Int) (fun(letter1,x2,x3,x4,x5,x6,x7,x8,x9,x10,x11,x12,x13,x14,x15,x16,x17,x18,x19,x20,x21,x22,x23,x24,x25,x26,x27,x28,x29,x30,x31,x32,x33,x34,x35,x36,x37,x38,x39,x40,x41,x42,x43)=>F letter1 x2 x3 x4 x5 x6 x7 x8 x9 x10 x11 x12 x13 x14 x15 x16 x17 x18 x19 x20 x21 x22 x23 x24 x25 x26 x27 x28 x29 x30 x31 x32 x33 x34 x35 x36 x37 x38 x39 x40 x41 x42 x43) (fun(letter1,x2,x3,x4,x5,x6,x7,x8,x9,x10,x11,x12,x13,x14,x15,x16,x17,x18,x19,x20,x21,x22,x23,x24,x25,x26,x27,x28,x29,x30,x31,x32,x33,x34,x35,x36,x37,x38,x39,x40,x41,x42,x43)=>([.ref 0 0,.ref 1 0,.pv (.int .u8 letter1)],[.var [.pv (.str x2),.pv (.int .i64 x3),.pv (.bool x4)],.var [.pv (.int .i64 x5),.pv (.int .i64 x6),.pv (.int .i64 x7),.pv (.int .i64 x8),.pv (.int .i64 x9),.pv (.int .i64 x10),.pv (.int .i64 x11),.pv (.str x12),.pv (.str x13),.pv (.str x14),.pv (.slice (List.map PV.str x15)),.pv (.slice (List.map Qid.pv x16)),.pv (.int .i64 x17),.pv (.int .i64 x18),.pv (.int .i64 x19),.pv (.int .i64 x20),.pv (.int .i64 x21),.pv (.int .i64 x22),.pv (.str x23),.pv (.int .i64 x24),.pv (.int .i64 x25),.pv (.str x26),.pv (.int .i64 x27),.pv (.int .i64 x28),.pv (.int .i64 x29),.pv (.int .i64 x30),.pv (.int .i64 x31),.pv (.int .i64 x32),.pv (.int .i64 x33),.pv (.int .i64 x34),.pv (.int .i64 x35),.pv (.str x36),.pv (.str x37),.pv (.str x38),.pv (.str x39),.pv (.int .i64 x40),.pv (.int .i64 x41),.pv (.int .i64 x42),.pv (.str x43)]])) (fun(letter1,x2,x3,x4,x5,x6,x7,x8,x9,x10,x11,x12,x13,x14,x15,x16,x17,x18,x19,x20,x21,x22,x23,x24,x25,x26,x27,x28,x29,x30,x31,x32,x33,x34,x35,x36,x37,x38,x39,x40,x41,x42,x43) (x44,x45)=>.ret [] [.var [.pv (.str x2),.pv (.int .i64 x44),.pv (.bool x4)],.var [.pv (.int .i64 x5),.pv (.int .i64 x6),.pv (.int .i64 x45),.pv (.int .i64 x8),.pv (.int .i64 x9),.pv (.int .i64 x10),.pv (.int .i64 x11),.pv (.str x12),.pv (.str x13),.pv (.str x14),.pv (.slice (List.map PV.str x15)),.pv (.slice (List.map Qid.pv x16)),.pv (.int .i64 x17),.pv (.int .i64 x18),.pv (.int .i64 x19),.pv (.int .i64 x20),.pv (.int .i64 x21),.pv (.int .i64 x22),.pv (.str x23),.pv (.int .i64 x24),.pv (.int .i64 x25),.pv (.str x26),.pv (.int .i64 x27),.pv (.int .i64 x28),.pv (.int .i64 x29),.pv (.int .i64 x30),.pv (.int .i64 x31),.pv (.int .i64 x32),.pv (.int .i64 x33),.pv (.int .i64 x34),.pv (.int .i64 x35),.pv (.str x36),.pv (.str x37),.pv (.str x38),.pv (.str x39),.pv (.int .i64 x40),.pv (.int .i64 x41),.pv (.int .i64 x42),.pv (.str x43)]])
def F18_b1(r28:Str)(t15:Str)(r18:Int)(r23:Int)(r6:Int)(at2:Int)(again34:(Int×Int×Int)→Option (Msg×Int×Int)):(Int×Int×Int)→Option (Msg×Int×Int):=fun(i31,x32,x33)=>
 (bif decide (i31<(r28.length:Int))then
   (sidx r28 i31).bind fun c38=>
   (F56 c38 t15 x32 true r18 r23 x33 0 0 0 0 [] [] [] [] [] 0 0 0 0 0 0 [] 0 0 [] 0 0 0 0 0 0 0 0 0 [] [] [] [] 0 0 0 []).bind fun(x41,x42)=>
   again34 (IntKind.wrap .i64 (i31+1),x41,x42)
 else
  (F57 r18).bind fun r46=>
  (bif ((decide (r46=[])||!true)||!decide (x32=r6))then
    none
  else
   (F58 (Msg.mk r18 r23 x33 0 0 0 0 [] [] [] [] [] (Qid.mk 0 0 0) 0 0 0 [] 0 0 [] (Dir.mk 0 0 (Qid.mk 0 0 0) 0 0 0 0 [] [] [] []) 0 0 0 [])).bind fun r50=>
   (bif !decide (r50=0)then
     none
   else
    some (Msg.mk r18 r23 x33 0 0 0 0 [] [] [] [] [] (Qid.mk 0 0 0) 0 0 0 [] 0 0 [] (Dir.mk 0 0 (Qid.mk 0 0 0) 0 0 0 0 [] [] [] []) 0 0 0 [],IntKind.wrap .i64 (at2+r6),0))))
def F18(s1:Str)(at2:Int):Option (Msg×Int×Int):=
 (F53 s1 at2 4).bind fun(r6,r7,r8)=>
 (bif !decide (r8=0)then
   none
 else
  (bif decide (8192<r6)then
    none
  else
   (bif decide (r6<7)then
     none
   else
    (bif decide (IntKind.wrap .i64 ((s1.length:Int)-at2)<r6)then
      none
    else
     (sslice s1 at2 (IntKind.wrap .i64 (at2+r6))).bind fun t15=>
     (F54 1 t15 4 true).bind fun(r18,x19)=>
     (F54 2 t15 x19 true).bind fun(r23,x24)=>
     (F55 r18).bind fun r28=>
     iter (F18_b1 r28 t15 r18 r23 r6 at2) BIG (0,x24,0)))))
def S18(F:Str→Int→Option (Msg×Int×Int)):Spec:=mkS 18 (α:=Str×Int) (ρ:=Msg×Int×Int) (fun(s1,at2)=>F s1 at2) (fun(s1,at2)=>([.pv (.str s1),.pv (.int .i64 at2)],[])) (fun(s1,at2) (r3,r4,r5)=>.ret [.pv (.agg [.int .i64 r3.kind_,.int .i64 r3.tag_,.int .i64 r3.fid_,.int .i64 r3.newFid_,.int .i64 r3.authFid_,.int .i64 r3.oldTag_,.int .i64 r3.msize_,.str r3.version_,.str r3.user_,.str r3.attach_,.slice (List.map PV.str r3.names_),.slice (List.map Qid.pv r3.qids_),.int .i64 r3.qid_.type_,.int .i64 r3.qid_.vers_,.int .i64 r3.qid_.path_,.int .i64 r3.iounit_,.int .i64 r3.mode_,.int .i64 r3.perm_,.str r3.name_,.int .i64 r3.offset_,.int .i64 r3.count_,.str r3.data_,.int .i64 r3.stat_.type_,.int .i64 r3.stat_.dev_,.int .i64 r3.stat_.qid_.type_,.int .i64 r3.stat_.qid_.vers_,.int .i64 r3.stat_.qid_.path_,.int .i64 r3.stat_.mode_,.int .i64 r3.stat_.atime_,.int .i64 r3.stat_.mtime_,.int .i64 r3.stat_.length_,.str r3.stat_.name_,.str r3.stat_.uid_,.str r3.stat_.gid_,.str r3.stat_.muid_,.int .i64 r3.err_,.int .i64 r3.lease_,.int .i64 r3.term_,.str r3.session_]),.pv (.int .i64 r4),.pv (.int .i64 r5)] [])
def F4:Option Bool:=
 (F14 [97,32,98]).bind fun r2=>
 (catO [101,99,104,111,32] r2).bind fun s5=>
 (F13 s5).bind fun(r8,r9,r10)=>
 (guardO (!(!decide (r10=0)||!decide ((r8.length:Int)=1))) (lidx r8 0)).bind fun u13=>
 (bif ((!decide (r10=0)||!decide ((r8.length:Int)=1))||!decide ((u13.words_.length:Int)=2))then
   none
 else
  (lidx r8 0).bind fun u17=>
  (lidx u17.words_ 1).bind fun u20=>
  (F15 [] 0 u20).bind fun(r23,r24,r25)=>
  (F17).bind fun r28=>
  (F16 r28 (Msg.mk 120 0 7 0 0 0 0 [] [] [] [] [] (Qid.mk 0 0 0) 0 0 0 [] 0 0 [] (Dir.mk 0 0 (Qid.mk 0 0 0) 0 0 0 0 [] [] [] []) 0 0 0 [])).bind fun(r31,r32,r33,r34)=>
  (F18 r33 0).bind fun(r37,r38,r39)=>
  (guardO (decide (r25=0)&&decide ((r23.length:Int)=1)) (lidx r23 0)).bind fun w42=>
  some ((((((((decide (r25=0)&&decide ((r23.length:Int)=1))&&decide (w42=[97,32,98]))&&decide (r34=0))&&decide (r32=1))&&decide (r39=0))&&decide (r38=(r33.length:Int)))&&decide (r37.fid_=7))&&decide (r37.tag_=1)))
def S4(F:Option (Bool)):Spec:=mkS 4 (α:=Unit) (ρ:=Bool) (fun(_:Unit)=>F) (fun(_:Unit)=>([],[])) (fun(_:Unit) r1=>.ret [.pv (.bool r1)] [])
theorem S4_F(F:Option (Bool)):(S4 F).F ()=F:=rfl
def F277(s1:Str)(prefix2:Str):Option Str:=
 (F149 s1 prefix2).bind fun r4=>
 (bif r4 then
   (sslice s1 (prefix2.length:Int) (s1.length:Int)).bind fun t8=>
   some t8
 else
  some s1)
def S277(F:Str→Str→Option (Str)):Spec:=mkS 277 (α:=Str×Str) (ρ:=Str) (fun(s1,prefix2)=>F s1 prefix2) (fun(s1,prefix2)=>([.pv (.str s1),.pv (.str prefix2)],[])) (fun(s1,prefix2) r3=>.ret [.pv (.str r3)] [])
def F227(s1:Str)(prefix2:Str):Option Str:=
 (F277 s1 prefix2).bind fun r4=>
 some r4
def S227(F:Str→Str→Option (Str)):Spec:=mkS 227 (α:=Str×Str) (ρ:=Str) (fun(s1,prefix2)=>F s1 prefix2) (fun(s1,prefix2)=>([.pv (.str s1),.pv (.str prefix2)],[])) (fun(s1,prefix2) r3=>.ret [.pv (.str r3)] [])
def F157_b1(r3:Str)(again11:Int→Option Bool):Int→Option Bool:=fun i10=>
 (bif decide (i10<(r3.length:Int))then
   (sidx r3 i10).bind fun c15=>
   (bif ((((decide (c15<97)||decide (122<c15))&&(decide (c15<48)||decide (57<c15)))&&!decide (c15=45))&&!decide (c15=95))then
     some false
   else
    again11 (IntKind.wrap .i64 (i10+1)))
 else
  some true)
def F157(s1:Str):Option Bool:=
 (F227 s1 [33]).bind fun r3=>
 (guardO (!(decide (r3=[])||decide (32<(r3.length:Int)))) (sidx r3 0)).bind fun c6=>
 (bif (((decide (r3=[])||decide (32<(r3.length:Int)))||decide (c6<97))||decide (122<c6))then
   some false
 else
  iter (F157_b1 r3) BIG 0)
def S157(F:Str→Option (Bool)):Spec:=mkS 157 (α:=Str) (ρ:=Bool) F (fun s1=>([.pv (.str s1)],[])) (fun s1 r2=>.ret [.pv (.bool r2)] [])
def F131_b1(s1:Str)(stops2:Str)(again5:Int→Option Int):Int→Option Int:=fun i4=>
 (bif decide (i4<(s1.length:Int))then
   (sidx s1 i4).bind fun c9=>
   (L_IndexByte stops2 c9).bind fun n12=>
   (bif decide (0≤n12)then
     some i4
   else
    again5 (IntKind.wrap .i64 (i4+1)))
 else
  some (s1.length:Int))
def F131(s1:Str)(stops2:Str):Option Int:=
 iter (F131_b1 s1 stops2) BIG 0
def S131(F:Str→Str→Option (Int)):Spec:=mkS 131 (α:=Str×Str) (ρ:=Int) (fun(s1,stops2)=>F s1 stops2) (fun(s1,stops2)=>([.pv (.str s1),.pv (.str stops2)],[])) (fun(s1,stops2) r3=>.ret [.pv (.int .i64 r3)] [])
def F158(b1:Attr)(x2:Str)(x3:Str)(x4:Bool):Option Bool:=
 some (decide (b1.name_=x2))
def S158(F:Attr→Str→Str→Bool→Option (Bool)):Spec:=mkS 158 (α:=Attr×Str×Str×Bool) (ρ:=Bool) (fun(b1,x2,x3,x4)=>F b1 x2 x3 x4) (fun(b1,x2,x3,x4)=>([.pv (.agg [.str b1.name_,.str b1.value_,.bool b1.query_]),.ref 0 0],[.var [.pv (.str x2),.pv (.str x3),.pv (.bool x4)]])) (fun(b1,x2,x3,x4) r5=>.ret [.pv (.bool r5)] [.var [.pv (.str x2),.pv (.str x3),.pv (.bool x4)]])
def F207_b1(s1:List Attr)(x2:Str)(x3:Str)(x4:Bool)(again7:Int→Option Int):Int→Option Int:=fun i6=>
 (bif decide (i6<(s1.length:Int))then
   (lidx s1 i6).bind fun u11=>
   (F158 u11 x2 x3 x4).bind fun r14=>
   (bif r14 then
     some i6
   else
    again7 (IntKind.wrap .i64 (i6+1)))
 else
  some (-1))
def F207(s1:List Attr)(x2:Str)(x3:Str)(x4:Bool):Option Int:=
 iter (F207_b1 s1 x2 x3 x4) BIG 0
def S207(F:(List Attr)→Str→Str→Bool→Option (Int)):Spec:=mkS 207 (α:=(List Attr)×Str×Str×Bool) (ρ:=Int) (fun(s1,x2,x3,x4)=>F s1 x2 x3 x4) (fun(s1,x2,x3,x4)=>([.pv (.slice (List.map Attr.pv s1)),.fn 158 [0]],[.var [.pv (.str x2),.pv (.str x3),.pv (.bool x4)]])) (fun(s1,x2,x3,x4) r5=>.ret [.pv (.int .i64 r5)] [.var [.pv (.str x2),.pv (.str x3),.pv (.bool x4)]])
def F129(s1:List Attr)(x2:Str)(x3:Str)(x4:Bool):Option Bool:=
 (F207 s1 x2 x3 x4).bind fun r6=>
 some (decide (0≤r6))
def S129(F:(List Attr)→Str→Str→Bool→Option (Bool)):Spec:=mkS 129 (α:=(List Attr)×Str×Str×Bool) (ρ:=Bool) (fun(s1,x2,x3,x4)=>F s1 x2 x3 x4) (fun(s1,x2,x3,x4)=>([.pv (.slice (List.map Attr.pv s1)),.fn 158 [0]],[.var [.pv (.str x2),.pv (.str x3),.pv (.bool x4)]])) (fun(s1,x2,x3,x4) r5=>.ret [.pv (.bool r5)] [.var [.pv (.str x2),.pv (.str x3),.pv (.bool x4)]])
def F86(before1:List Attr)(a2:Attr):Option Int:=
 (bif decide (32≤(before1.length:Int))then
   some 22
 else
  (F157 a2.name_).bind fun r5=>
  (bif !r5 then
    some 6
  else
   (bif (a2.query_&&!decide (a2.value_=[]))then
     some 2
   else
    (F131 a2.value_ [0,10,13]).bind fun r10=>
    (bif decide (r10<(a2.value_.length:Int))then
      some 2
    else
     (bif decide (1024<(a2.value_.length:Int))then
       some 4
     else
      (F129 before1 a2.name_ a2.value_ a2.query_).bind fun r15=>
      (bif r15 then
        some 7
      else
       some 0))))))
def S86(F:(List Attr)→Attr→Option (Int)):Spec:=mkS 86 (α:=(List Attr)×Attr) (ρ:=Int) (fun(before1,a2)=>F before1 a2) (fun(before1,a2)=>([.pv (.slice (List.map Attr.pv before1)),.pv (.agg [.str a2.name_,.str a2.value_,.bool a2.query_])],[])) (fun(before1,a2) r3=>.ret [.pv (.int .i64 r3)] [])
def F60_b1(l1:List Attr)(again4:Int→Option Int):Int→Option Int:=fun i3=>
 (bif decide (i3<(l1.length:Int))then
   (lidx l1 i3).bind fun u8=>
   (lslice l1 0 i3).bind fun l11=>
   (F86 l11 u8).bind fun r14=>
   (bif !decide (r14=0)then
     some r14
   else
    again4 (IntKind.wrap .i64 (i3+1)))
 else
  some 0)
def F60(l1:List Attr):Option Int:=
 iter (F60_b1 l1) BIG 0
def S60(F:(List Attr)→Option (Int)):Spec:=mkS 60 (α:=(List Attr)) (ρ:=Int) F (fun l1=>([.pv (.slice (List.map Attr.pv l1))],[])) (fun l1 r2=>.ret [.pv (.int .i64 r2)] [])
def F130(a1:Attr):Option Bool:=
 some a1.query_
def S130(F:Attr→Option (Bool)):Spec:=mkS 130 (α:=Attr) (ρ:=Bool) F (fun a1=>([.pv (.agg [.str a1.name_,.str a1.value_,.bool a1.query_])],[])) (fun a1 r2=>.ret [.pv (.bool r2)] [])
def F207x1_b1(s1:List Attr)(again4:Int→Option Int):Int→Option Int:=fun i3=>
 (bif decide (i3<(s1.length:Int))then
   (lidx s1 i3).bind fun u8=>
   (F130 u8).bind fun r11=>
   (bif r11 then
     some i3
   else
    again4 (IntKind.wrap .i64 (i3+1)))
 else
  some (-1))
def F207x1(s1:List Attr):Option Int:=
 iter (F207x1_b1 s1) BIG 0
def S207x1(F:(List Attr)→Option (Int)):Spec:=mkS 207 (α:=(List Attr)) (ρ:=Int) F (fun s1=>([.pv (.slice (List.map Attr.pv s1)),.fn 130 []],[])) (fun s1 r2=>.ret [.pv (.int .i64 r2)] [])
def F129x1(s1:List Attr):Option Bool:=
 (F207x1 s1).bind fun r3=>
 some (decide (0≤r3))
def S129x1(F:(List Attr)→Option (Bool)):Spec:=mkS 129 (α:=(List Attr)) (ρ:=Bool) F (fun s1=>([.pv (.slice (List.map Attr.pv s1)),.fn 130 []],[])) (fun s1 r2=>.ret [.pv (.bool r2)] [])
def F61(l1:List Attr):Option Bool:=
 (F129x1 l1).bind fun r3=>
 some r3
def S61(F:(List Attr)→Option (Bool)):Spec:=mkS 61 (α:=(List Attr)) (ρ:=Bool) F (fun l1=>([.pv (.slice (List.map Attr.pv l1))],[])) (fun l1 r2=>.ret [.pv (.bool r2)] [])
def F19_b1(m1:Plumb)(again4:Int→Option Int):Int→Option Int:=fun i3=>
 (bif decide (i3<([m1.src_,m1.dst_,m1.dir_,m1.type_].length:Int))then
   (lidx [m1.src_,m1.dst_,m1.dir_,m1.type_] i3).bind fun w8=>
   (bif decide (1024<(w8.length:Int))then
     some 4
   else
    (L_SContains w8 [10]).bind fun ok12=>
    (bif ok12 then
      some 2
    else
     again4 (IntKind.wrap .i64 (i3+1))))
 else
  (F60 m1.attrs_).bind fun r16=>
  (bif !decide (r16=0)then
    some r16
  else
   (F61 m1.attrs_).bind fun r20=>
   (bif r20 then
     some 2
   else
    (bif decide (65536<(m1.data_.length:Int))then
      some 4
    else
     some 0))))
def F19(m1:Plumb):Option Int:=
 iter (F19_b1 m1) BIG 0
def S19(F:Plumb→Option (Int)):Spec:=mkS 19 (α:=Plumb) (ρ:=Int) F (fun m1=>([.pv (.agg [.str m1.src_,.str m1.dst_,.str m1.dir_,.str m1.type_,.slice (List.map Attr.pv m1.attrs_),.str m1.data_])],[])) (fun m1 r2=>.ret [.pv (.int .i64 r2)] [])
def F62(s1:Str):Option Str:=
 (guardO (!decide (s1=[])) (F131 s1 [32,9,39])).bind fun r3=>
 (bif (!decide (s1=[])&&decide (r3=(s1.length:Int)))then
   some s1
 else
  (L_ReplaceAll s1 [39] [39,39]).bind fun t7=>
  (catO [39] t7).bind fun s10=>
  (catO s10 [39]).bind fun s13=>
  some s13)
def S62(F:Str→Option (Str)):Spec:=mkS 62 (α:=Str) (ρ:=Str) F (fun s1=>([.pv (.str s1)],[])) (fun s1 r2=>.ret [.pv (.str r2)] [])
def F20_b1(l1:List Attr)(again13:(Int×(List Str))→Option (Str×Int)):(Int×(List Str))→Option (Str×Int):=fun(i11,l12)=>
 (bif decide (i11<(l1.length:Int))then
   (lidx l1 i11).bind fun u17=>
   (bif u17.query_ then
     none
   else
    (catO u17.name_ [61]).bind fun s21=>
    (F62 u17.value_).bind fun r24=>
    (catO s21 r24).bind fun s27=>
    (appO 16 l12 [s27]).bind fun out30=>
    again13 (IntKind.wrap .i64 (i11+1),out30))
 else
  (L_Join l12 [32]).bind fun s33=>
  some (s33,0))
def F20(l1:List Attr):Option (Str×Int):=
 (F60 l1).bind fun r4=>
 (bif !decide (r4=0)then
   none
 else
  (mkO 16 (l1.length:Int)).bind fun u8=>
  iter (F20_b1 l1) BIG (0,([]:List Str)))
def S20(F:(List Attr)→Option (Str×Int)):Spec:=mkS 20 (α:=(List Attr)) (ρ:=Str×Int) F (fun l1=>([.pv (.slice (List.map Attr.pv l1))],[])) (fun l1 (r2,r3)=>.ret [.pv (.str r2),.pv (.int .i64 r3)] [])
def F66(base1:Int):Option Bool:=
 some ((decide (base1=8)||decide (base1=10))||decide (base1=16))
def S66(F:Int→Option (Bool)):Spec:=mkS 66 (α:=Int) (ρ:=Bool) F (fun base1=>([.pv (.int .i64 base1)],[])) (fun base1 r2=>.ret [.pv (.bool r2)] [])
def F67(i1:Int)(base2:Int):Option Str:=
 (L_FormatInt i1 base2).bind fun s4=>
 some s4
def S67(F:Int→Int→Option (Str)):Spec:=mkS 67 (α:=Int×Int) (ρ:=Str) (fun(i1,base2)=>F i1 base2) (fun(i1,base2)=>([.pv (.int .i64 i1),.pv (.int .i64 base2)],[])) (fun(i1,base2) r3=>.ret [.pv (.str r3)] [])
def F22(n1:Int)(base2:Int):Option Str:=
 (F66 base2).bind fun r4=>
 (bif !r4 then
   none
 else
  (F67 n1 base2).bind fun r8=>
  some r8)
def S22(F:Int→Int→Option (Str)):Spec:=mkS 22 (α:=Int×Int) (ρ:=Str) (fun(n1,base2)=>F n1 base2) (fun(n1,base2)=>([.pv (.int .i64 n1),.pv (.int .i64 base2)],[])) (fun(n1,base2) r3=>.ret [.pv (.str r3)] [])
def F5(m1:Plumb):Option (Str×Int):=
 (F19 m1).bind fun r4=>
 (bif !decide (r4=0)then
   some ([],r4)
 else
  (F20 m1.attrs_).bind fun(r8,r9)=>
  (bif !decide (r9=0)then
    none
  else
   (F22 (m1.data_.length:Int) 10).bind fun r13=>
   (L_Join [m1.src_,m1.dst_,m1.dir_,m1.type_,r8,r13,m1.data_] [10]).bind fun s16=>
   some (s16,0)))
def S5(F:Plumb→Option (Str×Int)):Spec:=mkS 5 (α:=Plumb) (ρ:=Str×Int) F (fun m1=>([.pv (.agg [.str m1.src_,.str m1.dst_,.str m1.dir_,.str m1.type_,.slice (List.map Attr.pv m1.attrs_),.str m1.data_])],[])) (fun m1 (r2,r3)=>.ret [.pv (.str r2),.pv (.int .i64 r3)] [])
def F23_b1(s1:Str)(again8:Int→Option Bool):Int→Option Bool:=fun i7=>
 (bif decide (i7<(s1.length:Int))then
   (sidx s1 i7).bind fun c12=>
   (bif ((((decide (c12<97)||decide (122<c12))&&(decide (c12<48)||decide (57<c12)))&&!decide (c12=45))&&!decide (c12=95))then
     none
   else
    again8 (IntKind.wrap .i64 (i7+1)))
 else
  some true)
def F23(s1:Str):Option Bool:=
 (guardO (!(decide (s1=[])||decide (32<(s1.length:Int)))) (sidx s1 0)).bind fun c3=>
 (bif (((((decide (s1=[])||decide (32<(s1.length:Int)))||decide (c3<97))||decide (122<c3))||decide (s1=[114,117,108,101,115]))||decide (s1=[115,101,110,100]))then
   none
 else
  iter (F23_b1 s1) BIG 0)
def S23(F:Str→Option (Bool)):Spec:=mkS 23 (α:=Str) (ρ:=Bool) F (fun s1=>([.pv (.str s1)],[])) (fun s1 r2=>.ret [.pv (.bool r2)] [])
def F68_b1(s1:List Str)(v2:Str)(again5:Int→Option Int):Int→Option Int:=fun i4=>
 (bif decide (i4<(s1.length:Int))then
   (lidx s1 i4).bind fun w9=>
   (bif decide (v2=w9)then
     none
   else
    again5 (IntKind.wrap .i64 (i4+1)))
 else
  some (-1))
def F68(s1:List Str)(v2:Str):Option Int:=
 iter (F68_b1 s1 v2) BIG 0
def S68(F:(List Str)→Str→Option (Int)):Spec:=mkS 68 (α:=(List Str)×Str) (ρ:=Int) (fun(s1,v2)=>F s1 v2) (fun(s1,v2)=>([.pv (.slice (List.map PV.str s1)),.pv (.str v2)],[])) (fun(s1,v2) r3=>.ret [.pv (.int .i64 r3)] [])
def F24(s1:List Str)(v2:Str):Option Bool:=
 (F68 s1 v2).bind fun r4=>
 some (decide (0≤r4))
def S24(F:(List Str)→Str→Option (Bool)):Spec:=mkS 24 (α:=(List Str)×Str) (ρ:=Bool) (fun(s1,v2)=>F s1 v2) (fun(s1,v2)=>([.pv (.slice (List.map PV.str s1)),.pv (.str v2)],[])) (fun(s1,v2) r3=>.ret [.pv (.bool r3)] [])
def F70(x1:Int):Option Int:=
 (L_Len64 x1).bind fun n4=>
 some n4
def S70(F:Int→Option (Int)):Spec:=mkS 70 (α:=Int) (ρ:=Int) F (fun x1=>([.pv (.int .u64 x1)],[])) (fun x1 r2=>.ret [.pv (.int .i64 r2)] [])
def F27(a1:Str)(b2:Str):Option Int:=
 (L_Compare a1 b2).bind fun n4=>
 some n4
def S27(F:Str→Str→Option (Int)):Spec:=mkS 27 (α:=Str×Str) (ρ:=Int) (fun(a1,b2)=>F a1 b2) (fun(a1,b2)=>([.pv (.str a1),.pv (.str b2)],[])) (fun(a1,b2) r3=>.ret [.pv (.int .i64 r3)] [])
def F26(a1:Port)(b2:Port):Option Int:=
 (F27 a1.name_ b2.name_).bind fun r4=>
 some r4
def S26(F:Port→Port→Option (Int)):Spec:=mkS 26 (α:=Port×Port) (ρ:=Int) (fun(a1,b2)=>F a1 b2) (fun(a1,b2)=>([.pv (.agg [.str a1.name_,oPV Plumb.pv a1.queue_,.int .i64 a1.opens_]),.pv (.agg [.str b2.name_,oPV Plumb.pv b2.queue_,.int .i64 b2.opens_])],[])) (fun(a1,b2) r3=>.ret [.pv (.int .i64 r3)] [])
def F135_b3(a1:Int)(again7:(Int×(List Port))→Option (List Port))(i5:Int)(again13:(Int×(List Port))→Option (List Port)):(Int×(List Port))→Option (List Port):=fun(j11,l12)=>
 (guardO (decide (a1<j11)) (lidx l12 j11)).bind fun u16=>
 (guardO (decide (a1<j11)) (lidx l12 (IntKind.wrap .i64 (j11-1)))).bind fun u19=>
 (guardO (decide (a1<j11)) (F26 u16 u19)).bind fun r22=>
 (bif (decide (a1<j11)&&decide (r22<0))then
   (lidx l12 (IntKind.wrap .i64 (j11-1))).bind fun u26=>
   (lidx l12 j11).bind fun u29=>
   (lidx (List.set l12 (Int.toNat j11) u26) (IntKind.wrap .i64 (j11-1))).bind fun u32=>
   again13 (IntKind.wrap .i64 (j11-1),List.set (List.set l12 (Int.toNat j11) u26) (Int.toNat (IntKind.wrap .i64 (j11-1))) u29)
 else
  again7 (IntKind.wrap .i64 (i5+1),l12))
def F135_b2(b2:Int)(a1:Int)(again7:(Int×(List Port))→Option (List Port)):(Int×(List Port))→Option (List Port):=fun(i5,l6)=>
 (bif decide (i5<b2)then
   iter (F135_b3 a1 again7 i5) BIG (i5,l6)
 else
  some l6)
def F135(a1:Int)(b2:Int)(l3:List Port):Option (List Port):=
 iter (F135_b2 b2 a1) BIG (IntKind.wrap .i64 (a1+1),l3)
def S135(F:Int→Int→(List Port)→Option ((List Port))):Spec:=mkS 135 (α:=Int×Int×(List Port)) (ρ:=(List Port)) (fun(a1,b2,l3)=>F a1 b2 l3) (fun(a1,b2,l3)=>([.vec 0 (List.length l3),.pv (.int .i64 a1),.pv (.int .i64 b2),.fn 26 []],[.row 83 3 (List.map Port.pv l3) false])) (fun(a1,b2,l3) o4=>.ret [] [.row 83 3 (List.map Port.pv o4) false])
def F69_b1(b2:Int)(a1:Int)(l4:List Port)(again6:Unit→Option (List Port)):Unit→Option (List Port):=fun _=>
 (bif decide (IntKind.wrap .i64 (b2-a1)≤12)then
   (F135 a1 b2 l4).bind fun o10=>
   (sameO l4 o10).bind fun u13=>
   some o10
 else
  none)
def F69(a1:Int)(b2:Int)(limit3:Int)(l4:List Port):Option (List Port):=
 iter (F69_b1 b2 a1 l4) BIG ()
def S69(F:Int→Int→Int→(List Port)→Option ((List Port))):Spec:=mkS 69 (α:=Int×Int×Int×(List Port)) (ρ:=(List Port)) (fun(a1,b2,limit3,l4)=>F a1 b2 limit3 l4) (fun(a1,b2,limit3,l4)=>([.vec 0 (List.length l4),.pv (.int .i64 a1),.pv (.int .i64 b2),.pv (.int .i64 limit3),.fn 26 []],[.row 83 3 (List.map Port.pv l4) false])) (fun(a1,b2,limit3,l4) o5=>.ret [] [.row 83 3 (List.map Port.pv o5) false])
def F25(l1:List Port):Option (List Port):=
 (F70 (IntKind.wrap .u64 (l1.length:Int))).bind fun r3=>
 (F69 0 (l1.length:Int) r3 l1).bind fun o6=>
 (sameO l1 o6).bind fun u9=>
 some o6
def S25(F:(List Port)→Option ((List Port))):Spec:=mkS 25 (α:=(List Port)) (ρ:=(List Port)) F (fun l1=>([.vec 0 (List.length l1),.fn 26 []],[.row 83 3 (List.map Port.pv l1) false])) (fun l1 o2=>.ret [] [.row 83 3 (List.map Port.pv o2) false])
def F6_b1(ports1:List Str)(again7:(Int×(List Port))→Option (Plumber×Int)):(Int×(List Port))→Option (Plumber×Int):=fun(i5,l6)=>
 (bif decide (i5<(ports1.length:Int))then
   (lidx ports1 i5).bind fun w11=>
   (F23 w11).bind fun r14=>
   (bif !r14 then
     none
   else
    (lslice ports1 0 i5).bind fun l18=>
    (F24 l18 w11).bind fun r21=>
    (bif r21 then
      none
    else
     (appO 48 l6 [Port.mk w11 none 0]).bind fun out25=>
     again7 (IntKind.wrap .i64 (i5+1),out25)))
 else
  (F25 l6).bind fun o28=>
  (sameO l6 o28).bind fun u31=>
  some (Plumber.mk ([]:List Rule) o28,0))
def F6(ports1:List Str):Option (Plumber×Int):=
 (bif decide (16<(ports1.length:Int))then
   none
 else
  iter (F6_b1 ports1) BIG (0,([]:List Port)))
def S6(F:(List Str)→Option (Plumber×Int)):Spec:=mkS 6 (α:=(List Str)) (ρ:=Plumber×Int) F (fun ports1=>([.pv (.slice (List.map PV.str ports1))],[])) (fun ports1 (r2,r3)=>.ret [.pv (.agg [.slice (List.map Rule.pv r2.rules_),.slice (List.map Port.pv r2.ports_)]),.pv (.int .i64 r3)] [])
def F28(p1:Plumber)(id2:Int):Option Bool:=
 some (decide (1≤id2)&&decide (id2<IntKind.wrap .i64 (4+(p1.ports_.length:Int))))
def S28(F:Plumber→Int→Option (Bool)):Spec:=mkS 28 (α:=Plumber×Int) (ρ:=Bool) (fun(p1,id2)=>F p1 id2) (fun(p1,id2)=>([.pv (.agg [.slice (List.map Rule.pv p1.rules_),.slice (List.map Port.pv p1.ports_)]),.pv (.int .i64 id2)],[])) (fun(p1,id2) r3=>.ret [.pv (.bool r3)] [])
def F30(x1:Port)(x2:Str):Option Bool:=
 some (decide (x1.name_=x2))
def S30(F:Port→Str→Option (Bool)):Spec:=mkS 30 (α:=Port×Str) (ρ:=Bool) (fun(x1,x2)=>F x1 x2) (fun(x1,x2)=>([.pv (.agg [.str x1.name_,oPV Plumb.pv x1.queue_,.int .i64 x1.opens_]),.ref 0 0],[.var [.pv (.str x2)]])) (fun(x1,x2) r3=>.ret [.pv (.bool r3)] [.var [.pv (.str x2)]])
def F29_b1(s1:List Port)(x2:Str)(again4:Unit→Option Int):Unit→Option Int:=fun _=>
 (bif decide (0<(s1.length:Int))then
   (lidx s1 0).bind fun u8=>
   (F30 u8 x2).bind fun r11=>
   (bif r11 then
     some 0
   else
    none)
 else
  none)
def F29(s1:List Port)(x2:Str):Option Int:=
 iter (F29_b1 s1 x2) BIG ()
def S29(F:(List Port)→Str→Option (Int)):Spec:=mkS 29 (α:=(List Port)×Str) (ρ:=Int) (fun(s1,x2)=>F s1 x2) (fun(s1,x2)=>([.pv (.slice (List.map Port.pv s1)),.fn 30 [0]],[.var [.pv (.str x2)]])) (fun(s1,x2) r3=>.ret [.pv (.int .i64 r3)] [.var [.pv (.str x2)]])
def F7(p1:Plumber)(id2:Int)(name3:Str):Option (Int×Int):=
 (F28 p1 id2).bind fun r6=>
 (bif !r6 then
   none
 else
  (bif !decide (id2=1)then
    none
  else
   (bif decide (name3=[46,46])then
     none
   else
    (bif decide (name3=[114,117,108,101,115])then
      none
    else
     (bif decide (name3=[115,101,110,100])then
       none
     else
      (F29 p1.ports_ name3).bind fun r14=>
      (bif decide (r14<0)then
        none
      else
       some (IntKind.wrap .i64 (4+r14),0)))))))
def S7(F:Plumber→Int→Str→Option (Int×Int)):Spec:=mkS 7 (α:=Plumber×Int×Str) (ρ:=Int×Int) (fun(p1,id2,name3)=>F p1 id2 name3) (fun(p1,id2,name3)=>([.pv (.agg [.slice (List.map Rule.pv p1.rules_),.slice (List.map Port.pv p1.ports_)]),.pv (.int .i64 id2),.pv (.str name3)],[])) (fun(p1,id2,name3) (r4,r5)=>.ret [.pv (.int .i64 r4),.pv (.int .i64 r5)] [])
def F73(m1:Plumb):Option Plumb:=
 (L_CloneA m1.attrs_).bind fun l3=>
 some (Plumb.mk m1.src_ m1.dst_ m1.dir_ m1.type_ l3 m1.data_)
def S73(F:Plumb→Option (Plumb)):Spec:=mkS 73 (α:=Plumb) (ρ:=Plumb) F (fun m1=>([.pv (.agg [.str m1.src_,.str m1.dst_,.str m1.dir_,.str m1.type_,.slice (List.map Attr.pv m1.attrs_),.str m1.data_])],[])) (fun m1 r2=>.ret [.pv (.agg [.str r2.src_,.str r2.dst_,.str r2.dir_,.str r2.type_,.slice (List.map Attr.pv r2.attrs_),.str r2.data_])] [])
def F31_b4(u13:Port)(l8:List Port)(again9:(Int×(List Port))→Option (List Port))(i7:Int)(again24:(Int×Str×Str×Str×Str×(List Attr)×Str×(List Plumb))→Option (List Port)):(Int×Str×Str×Str×Str×(List Attr)×Str×(List Plumb))→Option (List Port):=fun(i16,x17,x18,x19,x20,x21,x22,l23)=>
 (bif decide (i16<((u13.queue_.getD []).length:Int))then
   (lidx (u13.queue_.getD []) i16).bind fun u28=>
   (F73 u28).bind fun r32=>
   (appO 104 l23 [r32]).bind fun out35=>
   again24 (IntKind.wrap .i64 (i16+1),x17,x18,x19,x20,x21,x22,out35)
 else
  (appO 48 l8 [Port.mk u13.name_ (some l23) u13.opens_]).bind fun out38=>
  again9 (IntKind.wrap .i64 (i7+1),out38))
def F31_b3(p1:Plumber)(again9:(Int×(List Port))→Option (List Port)):(Int×(List Port))→Option (List Port):=fun(i7,l8)=>
 (bif decide (i7<(p1.ports_.length:Int))then
   (lidx p1.ports_ i7).bind fun u13=>
   (bif decide (0<((u13.queue_.getD []).length:Int))then
     (lidx (u13.queue_.getD []) 0).bind fun u43=>
     (F73 u43).bind fun r47=>
     (appO 104 ([]:List Plumb) [r47]).bind fun out50=>
     iter (F31_b4 u13 l8 again9 i7) BIG (IntKind.wrap .i64 (0+1),u43.src_,u43.dst_,u43.dir_,u43.type_,u43.attrs_,u43.data_,out50)
   else
    (appO 48 l8 [Port.mk u13.name_ none u13.opens_]).bind fun out53=>
    again9 (IntKind.wrap .i64 (i7+1),out53))
 else
  some l8)
def F31_b1(p1:Plumber)(again3:Unit→Option (List Port)):Unit→Option (List Port):=fun _=>
 (bif decide (0<(p1.rules_.length:Int))then
   none
 else
  iter (F31_b3 p1) BIG (0,([]:List Port)))
def F31(p1:Plumber):Option (List Port):=
 iter (F31_b1 p1) BIG ()
def S31(F:Plumber→Option ((List Port))):Spec:=mkS 31 (α:=Plumber) (ρ:=(List Port)) F (fun p1=>([.pv (.agg [.slice (List.map Rule.pv p1.rules_),.slice (List.map Port.pv p1.ports_)])],[])) (fun p1 r2=>.ret [.agg [.nils,.vec 0 (List.length r2)]] [.row 83 3 (List.map Port.pv r2) false])
def F32(id1:Int)(base2:Int):Option Bool:=
 (bif decide (id1=2)then
   none
 else
  (bif decide (id1=3)then
    none
  else
   some (decide (base2=0))))
def S32(F:Int→Int→Option (Bool)):Spec:=mkS 32 (α:=Int×Int) (ρ:=Bool) (fun(id1,base2)=>F id1 base2) (fun(id1,base2)=>([.pv (.int .i64 id1),.pv (.int .i64 base2)],[])) (fun(id1,base2) r3=>.ret [.pv (.bool r3)] [])
def F8(p1:Plumber)(id2:Int)(mode3:Int):Option (Plumber×Int):=
 (F31 p1).bind fun r6=>
 (F28 p1 id2).bind fun r10=>
 (bif !r10 then
   none
 else
  (bif (decide (bits .andNot .i64 mode3 80<0)||decide (3<bits .andNot .i64 mode3 80))then
    none
  else
   (bif (decide (id2=1)&&!decide (mode3=0))then
     none
   else
    (bif decide (id2=1)then
      none
    else
     (guardO (decide (bits .and .i64 mode3 64=0)) (F32 id2 (bits .andNot .i64 mode3 80))).bind fun r17=>
     (bif (!decide (bits .and .i64 mode3 64=0)||!r17)then
       none
     else
      (bif decide (id2<4)then
        none
      else
       (lidx r6 (IntKind.wrap .i64 (id2-4))).bind fun u22=>
       (bif decide (9007199254740991≤u22.opens_)then
         none
       else
        some (Plumber.mk ([]:List Rule) (List.set r6 (Int.toNat (IntKind.wrap .i64 (id2-4))) (Port.mk u22.name_ u22.queue_ (IntKind.wrap .i64 (u22.opens_+1)))),0))))))))
def S8(F:Plumber→Int→Int→Option (Plumber×Int)):Spec:=mkS 8 (α:=Plumber×Int×Int) (ρ:=Plumber×Int) (fun(p1,id2,mode3)=>F p1 id2 mode3) (fun(p1,id2,mode3)=>([.pv (.agg [.slice (List.map Rule.pv p1.rules_),.slice (List.map Port.pv p1.ports_)]),.pv (.int .i64 id2),.pv (.int .i64 mode3)],[])) (fun(p1,id2,mode3) (r4,r5)=>.ret [.pv (.agg [.slice (List.map Rule.pv r4.rules_),.slice (List.map Port.pv r4.ports_)]),.pv (.int .i64 r5)] [])
def F84(c1:Int):Option Bool:=
 some (decide (c1=32)||decide (c1=9))
def S84(F:Int→Option (Bool)):Spec:=mkS 84 (α:=Int) (ρ:=Bool) F (fun c1=>([.pv (.int .u8 c1)],[])) (fun c1 r2=>.ret [.pv (.bool r2)] [])
def F156_b1(s1:Str)(again7:(Int×Str)→Option (Str×Int×Bool)):(Int×Str)→Option (Str×Int×Bool):=fun(i5,b6)=>
 (bif decide (i5<(s1.length:Int))then
   (sidx s1 i5).bind fun c11=>
   (bif !decide (c11=39)then
     (L_WriteByte b6 c11).bind fun d15=>
     again7 (IntKind.wrap .i64 (i5+1),d15)
   else
    (guardO (!(decide (IntKind.wrap .i64 (i5+1)=(s1.length:Int)))) (sidx s1 (IntKind.wrap .i64 (i5+1)))).bind fun c19=>
    (bif (decide (IntKind.wrap .i64 (i5+1)=(s1.length:Int))||!decide (c19=39))then
      (L_String b6).bind fun s23=>
      some (s23,IntKind.wrap .i64 (i5+1),true)
    else
     (L_WriteByte b6 39).bind fun d27=>
     again7 (IntKind.wrap .i64 ((IntKind.wrap .i64 (i5+1))+1),d27)))
 else
  none)
def F156(s1:Str):Option (Str×Int×Bool):=
 iter (F156_b1 s1) BIG (0,[])
def S156(F:Str→Option (Str×Int×Bool)):Spec:=mkS 156 (α:=Str) (ρ:=Str×Int×Bool) F (fun s1=>([.pv (.str s1)],[])) (fun s1 (r2,r3,r4)=>.ret [.pv (.str r2),.pv (.int .i64 r3),.pv (.bool r4)] [])
def F85_j1(s1:Str)(t8:Str):(Int×Str)→Option (Attr×Int×Int):=fun(n14,x15)=>
 (guardO (decide (n14<(s1.length:Int))) (sidx s1 n14)).bind fun c16=>
 (guardO (decide (n14<(s1.length:Int))) (F84 c16)).bind fun r19=>
 (bif (decide (n14<(s1.length:Int))&&!r19)then
   none
 else
  some (Attr.mk t8 x15 false,n14,0))
def F85(s1:Str):Option (Attr×Int×Int):=
 (F131 s1 [32,9,61,63,39]).bind fun r5=>
 (sslice s1 0 r5).bind fun t8=>
 (sslice s1 r5 (s1.length:Int)).bind fun t11=>
 (F75 t11 [63]).bind fun r23=>
 (bif r23 then
   none
 else
  (F75 t11 [61,39]).bind fun r27=>
  (bif r27 then
    (sslice t11 2 (t11.length:Int)).bind fun t31=>
    (F156 t31).bind fun(r34,r35,r36)=>
    (bif !r36 then
      none
    else
     F85_j1 s1 t8 (IntKind.wrap .i64 (r5+(IntKind.wrap .i64 (2+r35))),r34))
  else
   (F75 t11 [61]).bind fun r40=>
   (bif r40 then
     (F131 t11 [32,9]).bind fun r44=>
     (sslice t11 1 r44).bind fun t47=>
     (L_SContains t47 [39]).bind fun ok50=>
     (bif ok50 then
       none
     else
      F85_j1 s1 t8 (IntKind.wrap .i64 (r5+r44),t47))
   else
    none)))
def S85(F:Str→Option (Attr×Int×Int)):Spec:=mkS 85 (α:=Str) (ρ:=Attr×Int×Int) F (fun s1=>([.pv (.str s1)],[])) (fun s1 (r2,r3,r4)=>.ret [.pv (.agg [.str r2.name_,.str r2.value_,.bool r2.query_]),.pv (.int .i64 r3),.pv (.int .i64 r4)] [])
def F37_b1(s1:Str)(again7:(Int×(List Attr))→Option ((List Attr)×Int×Int)):(Int×(List Attr))→Option ((List Attr)×Int×Int):=fun(i5,l6)=>
 (bif decide (i5<(s1.length:Int))then
   (sidx s1 i5).bind fun c11=>
   (F84 c11).bind fun r14=>
   (bif r14 then
     again7 (IntKind.wrap .i64 (i5+1),l6)
   else
    (sslice s1 i5 (s1.length:Int)).bind fun t18=>
    (F85 t18).bind fun(r21,r22,r23)=>
    (bif decide (r23=0)then
      (F86 l6 r21).bind fun r27=>
      (bif !decide (r27=0)then
        none
      else
       (appO 40 l6 [r21]).bind fun out31=>
       again7 (IntKind.wrap .i64 (i5+r22),out31))
    else
     none))
 else
  some (l6,0,0))
def F37(s1:Str):Option ((List Attr)×Int×Int):=
 iter (F37_b1 s1) BIG (0,([]:List Attr))
def S37(F:Str→Option ((List Attr)×Int×Int)):Spec:=mkS 37 (α:=Str) (ρ:=(List Attr)×Int×Int) F (fun s1=>([.pv (.str s1)],[])) (fun s1 (r2,r3,r4)=>.ret [.pv (.slice (List.map Attr.pv r2)),.pv (.int .i64 r3),.pv (.int .i64 r4)] [])
def F87(c1:Int):Option Int:=
 (bif (decide (48≤c1)&&decide (c1≤57))then
   some (IntKind.wrap .i64 (IntKind.wrap .u8 (c1-48)))
 else
  none)
def S87(F:Int→Option (Int)):Spec:=mkS 87 (α:=Int) (ρ:=Int) F (fun c1=>([.pv (.int .u8 c1)],[])) (fun c1 r2=>.ret [.pv (.int .i64 r2)] [])
def F38_b1(s1:Str)(base2:Int)(most3:Int)(again16:(Int×Int)→Option (Int×Int)):(Int×Int)→Option (Int×Int):=fun(n14,i15)=>
 (bif decide (i15<(s1.length:Int))then
   (sidx s1 i15).bind fun c20=>
   (F87 c20).bind fun r23=>
   (guardO (!(decide (base2≤r23))) (quoO .i64 (IntKind.wrap .i64 (most3-r23)) base2)).bind fun n26=>
   (bif ((decide (base2≤r23)||decide (n26<n14))||decide (most3<r23))then
     none
   else
    again16 (IntKind.wrap .i64 ((IntKind.wrap .i64 (n14 * base2))+r23),IntKind.wrap .i64 (i15+1)))
 else
  some (n14,0))
def F38(s1:Str)(base2:Int)(most3:Int):Option (Int×Int):=
 (F66 base2).bind fun r6=>
 (bif (!r6||decide (most3<0))then
   none
 else
  (guardO (!(decide (s1=[]))&&decide (1<(s1.length:Int))) (sidx s1 0)).bind fun c10=>
  (bif (decide (s1=[])||(decide (1<(s1.length:Int))&&decide (c10=48)))then
    none
  else
   iter (F38_b1 s1 base2 most3) BIG (0,0)))
def S38(F:Str→Int→Int→Option (Int×Int)):Spec:=mkS 38 (α:=Str×Int×Int) (ρ:=Int×Int) (fun(s1,base2,most3)=>F s1 base2 most3) (fun(s1,base2,most3)=>([.pv (.str s1),.pv (.int .i64 base2),.pv (.int .i64 most3)],[])) (fun(s1,base2,most3) (r4,r5)=>.ret [.pv (.int .i64 r4),.pv (.int .i64 r5)] [])
def F11(s1:Str):Option (Plumb×Int):=
 (L_SplitN s1 [10] 7).bind fun l4=>
 (bif decide ((l4.length:Int)≤6)then
   none
 else
  (lidx l4 4).bind fun w8=>
  (F37 w8).bind fun(r11,r12,r13)=>
  (bif !decide (r13=0)then
    none
  else
   (lidx l4 5).bind fun w17=>
   (F38 w17 10 65536).bind fun(r20,r21)=>
   (bif !decide (r21=0)then
     none
   else
    (lidx l4 6).bind fun w25=>
    (bif decide ((w25.length:Int)<r20)then
      none
    else
     (bif decide (r20<(w25.length:Int))then
       none
     else
      (lidx l4 0).bind fun w30=>
      (lidx l4 1).bind fun w33=>
      (lidx l4 2).bind fun w36=>
      (lidx l4 3).bind fun w39=>
      (F19 (Plumb.mk w30 w33 w36 w39 r11 w25)).bind fun r42=>
      (bif !decide (r42=0)then
        none
      else
       some (Plumb.mk w30 w33 w36 w39 r11 w25,0)))))))
def S11(F:Str→Option (Plumb×Int)):Spec:=mkS 11 (α:=Str) (ρ:=Plumb×Int) F (fun s1=>([.pv (.str s1)],[])) (fun s1 (r2,r3)=>.ret [.pv (.agg [.str r2.src_,.str r2.dst_,.str r2.dir_,.str r2.type_,.slice (List.map Attr.pv r2.attrs_),.str r2.data_]),.pv (.int .i64 r3)] [])
def F79_b1(l1:List Rule)(again6:Unit→Option (Plumb×Str×Bool)):Unit→Option (Plumb×Str×Bool):=fun _=>
 (bif decide (0<(l1.length:Int))then
   none
 else
  some (Plumb.mk [] [] [] [] [] [],[],false))
def F79(l1:List Rule)(m2:Plumb):Option (Plumb×Str×Bool):=
 iter (F79_b1 l1) BIG ()
def S79(F:(List Rule)→Plumb→Option (Plumb×Str×Bool)):Spec:=mkS 79 (α:=(List Rule)×Plumb) (ρ:=Plumb×Str×Bool) (fun(l1,m2)=>F l1 m2) (fun(l1,m2)=>([.pv (.slice (List.map Rule.pv l1)),.pv (.agg [.str m2.src_,.str m2.dst_,.str m2.dir_,.str m2.type_,.slice (List.map Attr.pv m2.attrs_),.str m2.data_])],[])) (fun(l1,m2) (r3,r4,r5)=>.ret [.pv (.agg [.str r3.src_,.str r3.dst_,.str r3.dir_,.str r3.type_,.slice (List.map Attr.pv r3.attrs_),.str r3.data_]),.pv (.str r4),.pv (.bool r5)] [])
def F80(x1:Port)(x2:Str):Option Bool:=
 some (decide (x1.name_=x2))
def S80(F:Port→Str→Option (Bool)):Spec:=mkS 80 (α:=Port×Str) (ρ:=Bool) (fun(x1,x2)=>F x1 x2) (fun(x1,x2)=>([.pv (.agg [.str x1.name_,oPV Plumb.pv x1.queue_,.int .i64 x1.opens_]),.ref 0 0],[.var [.pv (.str x2)]])) (fun(x1,x2) r3=>.ret [.pv (.bool r3)] [.var [.pv (.str x2)]])
def F29x1_b1(l1:List Port)(x2:Str)(again4:Unit→Option Int):Unit→Option Int:=fun _=>
 (bif decide (0<(l1.length:Int))then
   (lidx l1 0).bind fun u8=>
   (F80 u8 x2).bind fun r11=>
   (bif r11 then
     some 0
   else
    none)
 else
  none)
def F29x1(l1:List Port)(x2:Str):Option Int:=
 iter (F29x1_b1 l1 x2) BIG ()
def S29x1(F:(List Port)→Str→Option (Int)):Spec:=mkS 29 (α:=(List Port)×Str) (ρ:=Int) (fun(l1,x2)=>F l1 x2) (fun(l1,x2)=>([.vec 0 (List.length l1),.fn 80 [1]],[.row 83 3 (List.map Port.pv l1) false,.var [.pv (.str x2)]])) (fun(l1,x2) r3=>.ret [.pv (.int .i64 r3)] [.row 83 3 (List.map Port.pv l1) false,.var [.pv (.str x2)]])
def F81(m1:Plumb):Option Bool:=
 (F5 m1).bind fun(r3,r4)=>
 some (decide (r4=0)&&decide ((r3.length:Int)≤65536))
def S81(F:Plumb→Option (Bool)):Spec:=mkS 81 (α:=Plumb) (ρ:=Bool) F (fun m1=>([.pv (.agg [.str m1.src_,.str m1.dst_,.str m1.dir_,.str m1.type_,.slice (List.map Attr.pv m1.attrs_),.str m1.data_])],[])) (fun m1 r2=>.ret [.pv (.bool r2)] [])
def F34(p1:Plumber)(m2:Plumb):Option (Plumber×Int):=
 (F31 p1).bind fun r5=>
 (F5 m2).bind fun(r9,r10)=>
 (bif !decide (r10=0)then
   none
 else
  (F79 p1.rules_ m2).bind fun(r14,r15,r16)=>
  (bif !r16 then
    (F29x1 r5 m2.dst_).bind fun r20=>
    (guardO (!(decide (r20<0))) (lidx r5 r20)).bind fun u24=>
    (bif (decide (r20<0)||decide (u24.opens_=0))then
      none
    else
     (F81 m2).bind fun r28=>
     (bif !r28 then
       some (Plumber.mk ([]:List Rule) r5,4)
     else
      (lidx r5 r20).bind fun u32=>
      (bif decide (64≤((u32.queue_.getD []).length:Int))then
        none
      else
       (F73 m2).bind fun r36=>
       (nilO u32.queue_).bind fun u39=>
       (appO 104 ([]:List Plumb) [r36]).bind fun out42=>
       some (Plumber.mk ([]:List Rule) (List.set r5 (Int.toNat r20) (Port.mk u32.name_ (some out42) u32.opens_)),0))))
  else
   none))
def S34(F:Plumber→Plumb→Option (Plumber×Int)):Spec:=mkS 34 (α:=Plumber×Plumb) (ρ:=Plumber×Int) (fun(p1,m2)=>F p1 m2) (fun(p1,m2)=>([.pv (.agg [.slice (List.map Rule.pv p1.rules_),.slice (List.map Port.pv p1.ports_)]),.pv (.agg [.str m2.src_,.str m2.dst_,.str m2.dir_,.str m2.type_,.slice (List.map Attr.pv m2.attrs_),.str m2.data_])],[])) (fun(p1,m2) (r3,r4)=>.ret [.pv (.agg [.slice (List.map Rule.pv r3.rules_),.slice (List.map Port.pv r3.ports_)]),.pv (.int .i64 r4)] [])
def F9(p1:Plumber)(id2:Int)(offset3:Int)(data4:Str):Option (Plumber×Int×Int):=
 (F31 p1).bind fun r8=>
 (F28 p1 id2).bind fun r12=>
 (bif !r12 then
   none
 else
  (bif decide (id2=1)then
    none
  else
   (bif decide (offset3<0)then
     none
   else
    (bif decide (4≤id2)then
      none
    else
     (bif decide (id2=2)then
       none
     else
      (F11 data4).bind fun(r20,r21)=>
      (bif !decide (r21=0)then
        none
      else
       (F34 p1 r20).bind fun(r25,r26)=>
       (bif !decide (r26=0)then
         some (r25,0,r26)
       else
        some (r25,(data4.length:Int),0))))))))
def S9(F:Plumber→Int→Int→Str→Option (Plumber×Int×Int)):Spec:=mkS 9 (α:=Plumber×Int×Int×Str) (ρ:=Plumber×Int×Int) (fun(p1,id2,offset3,data4)=>F p1 id2 offset3 data4) (fun(p1,id2,offset3,data4)=>([.pv (.agg [.slice (List.map Rule.pv p1.rules_),.slice (List.map Port.pv p1.ports_)]),.pv (.int .i64 id2),.pv (.int .i64 offset3),.pv (.str data4)],[])) (fun(p1,id2,offset3,data4) (r5,r6,r7)=>.ret [.pv (.agg [.slice (List.map Rule.pv r5.rules_),.slice (List.map Port.pv r5.ports_)]),.pv (.int .i64 r6),.pv (.int .i64 r7)] [])
def F10(p1:Plumber)(id2:Int)(offset3:Int)(count4:Int):Option (Plumber×Str×Bool×Int):=
 (F31 p1).bind fun r9=>
 (F28 p1 id2).bind fun r13=>
 (bif !r13 then
   none
 else
  (bif decide (id2=1)then
    none
  else
   (bif (decide (offset3<0)||decide (count4<0))then
     none
   else
    (bif decide (id2=3)then
      none
    else
     (bif decide (id2=2)then
       none
     else
      (lidx r9 (IntKind.wrap .i64 (id2-4))).bind fun u21=>
      (bif decide (((u21.queue_.getD []).length:Int)=0)then
        some (Plumber.mk ([]:List Rule) r9,[],true,0)
      else
       (lidx (u21.queue_.getD []) 0).bind fun u25=>
       (F5 u25).bind fun(r29,r30)=>
       (bif (decide (r30=0)&&decide (imin count4 65536<(r29.length:Int)))then
         none
       else
        (bif !decide (r30=0)then
          none
        else
         (u21.queue_).bind fun l35=>
         (lslice l35 1 (l35.length:Int)).bind fun l38=>
         some (Plumber.mk ([]:List Rule) (List.set r9 (Int.toNat (IntKind.wrap .i64 (id2-4))) (Port.mk u21.name_ (some l38) u21.opens_)),r29,false,0)))))))))
def S10(F:Plumber→Int→Int→Int→Option (Plumber×Str×Bool×Int)):Spec:=mkS 10 (α:=Plumber×Int×Int×Int) (ρ:=Plumber×Str×Bool×Int) (fun(p1,id2,offset3,count4)=>F p1 id2 offset3 count4) (fun(p1,id2,offset3,count4)=>([.pv (.agg [.slice (List.map Rule.pv p1.rules_),.slice (List.map Port.pv p1.ports_)]),.pv (.int .i64 id2),.pv (.int .i64 offset3),.pv (.int .i64 count4)],[])) (fun(p1,id2,offset3,count4) (r5,r6,r7,r8)=>.ret [.pv (.agg [.slice (List.map Rule.pv r5.rules_),.slice (List.map Port.pv r5.ports_)]),.pv (.str r6),.pv (.bool r7),.pv (.int .i64 r8)] [])
def F39_b1(a1:List Attr)(b2:List Attr)(again6:Int→Option Bool):Int→Option Bool:=fun i5=>
 (bif decide (i5<(a1.length:Int))then
   (lidx a1 i5).bind fun u10=>
   (lidx b2 i5).bind fun u13=>
   (bif !(decide (u10.name_=u13.name_)&&(decide (u10.value_=u13.value_)&&((u10.query_==u13.query_))))then
     none
   else
    again6 (IntKind.wrap .i64 (i5+1)))
 else
  some true)
def F39(a1:List Attr)(b2:List Attr):Option Bool:=
 (bif !decide ((a1.length:Int)=(b2.length:Int))then
   none
 else
  iter (F39_b1 a1 b2) BIG 0)
def S39(F:(List Attr)→(List Attr)→Option (Bool)):Spec:=mkS 39 (α:=(List Attr)×(List Attr)) (ρ:=Bool) (fun(a1,b2)=>F a1 b2) (fun(a1,b2)=>([.pv (.slice (List.map Attr.pv a1)),.pv (.slice (List.map Attr.pv b2))],[])) (fun(a1,b2) r3=>.ret [.pv (.bool r3)] [])
def F12(a1:Plumb)(b2:Plumb):Option Bool:=
 (guardO ((((decide (a1.src_=b2.src_)&&decide (a1.dst_=b2.dst_))&&decide (a1.dir_=b2.dir_))&&decide (a1.type_=b2.type_))&&decide (a1.data_=b2.data_)) (F39 a1.attrs_ b2.attrs_)).bind fun r4=>
 some (((((decide (a1.src_=b2.src_)&&decide (a1.dst_=b2.dst_))&&decide (a1.dir_=b2.dir_))&&decide (a1.type_=b2.type_))&&decide (a1.data_=b2.data_))&&r4)
def S12(F:Plumb→Plumb→Option (Bool)):Spec:=mkS 12 (α:=Plumb×Plumb) (ρ:=Bool) (fun(a1,b2)=>F a1 b2) (fun(a1,b2)=>([.pv (.agg [.str a1.src_,.str a1.dst_,.str a1.dir_,.str a1.type_,.slice (List.map Attr.pv a1.attrs_),.str a1.data_]),.pv (.agg [.str b2.src_,.str b2.dst_,.str b2.dir_,.str b2.type_,.slice (List.map Attr.pv b2.attrs_),.str b2.data_])],[])) (fun(a1,b2) r3=>.ret [.pv (.bool r3)] [])
def F3(m1:Plumb):Option Bool:=
 (bif ((decide (10000<IntKind.wrap .i64 ((IntKind.wrap .i64 ((m1.src_.length:Int)+(m1.dir_.length:Int)))+(m1.type_.length:Int)))||decide (40<(m1.attrs_.length:Int)))||decide (70000<(m1.data_.length:Int)))then
   (F4).bind fun r4=>
   some r4
 else
  (F5 (Plumb.mk m1.src_ [101,100,105,116] m1.dir_ m1.type_ m1.attrs_ m1.data_)).bind fun(r7,r8)=>
  (bif !decide (r8=0)then
    (F4).bind fun r12=>
    some r12
  else
   (F6 [[119,101,98],[101,100,105,116]]).bind fun(r15,r16)=>
   (F7 r15 1 [101,100,105,116]).bind fun(r19,r20)=>
   (F8 r15 r19 0).bind fun(r23,r24)=>
   (F9 r23 3 0 r7).bind fun(r27,r28,r29)=>
   (bif ((!decide (r16=0)||!decide (r20=0))||!decide (r24=0))then
     none
   else
    (bif decide (65536<(r7.length:Int))then
      (guardO (decide (r29=4)) (F4)).bind fun r34=>
      some (decide (r29=4)&&r34)
    else
     (F10 r27 r19 0 65536).bind fun(r37,r38,r39,r40)=>
     (F11 r38).bind fun(r43,r44)=>
     (F10 r37 r19 0 65536).bind fun(r47,r48,r49,r50)=>
     (guardO (((((decide (r29=0)&&decide (r28=(r7.length:Int)))&&decide (r38=r7))&&!r39)&&decide (r40=0))&&decide (r44=0)) (F12 r43 (Plumb.mk m1.src_ [101,100,105,116] m1.dir_ m1.type_ m1.attrs_ m1.data_))).bind fun r53=>
     (guardO (((((((decide (r29=0)&&decide (r28=(r7.length:Int)))&&decide (r38=r7))&&!r39)&&decide (r40=0))&&decide (r44=0))&&r53)&&r49) (F4)).bind fun r56=>
     some ((((((((decide (r29=0)&&decide (r28=(r7.length:Int)))&&decide (r38=r7))&&!r39)&&decide (r40=0))&&decide (r44=0))&&r53)&&r49)&&r56)))))
def S3(F:Plumb→Option (Bool)):Spec:=mkS 3 (α:=Plumb) (ρ:=Bool) F (fun m1=>([.pv (.agg [.str m1.src_,.str m1.dst_,.str m1.dir_,.str m1.type_,.slice (List.map Attr.pv m1.attrs_),.str m1.data_])],[])) (fun m1 r2=>.ret [.pv (.bool r2)] [])
end Go.Abs.U54
