import Derived.Test.YtljahlbklgnfhaaGreatDoorPY
set_option linter.unusedVariables false
set_option linter.unusedSimpArgs false
set_option linter.defProp false
namespace Go.Abs.U48.Lx
open Go
theorem Q1z(c:UInt8):∀a:Str,c∉a->Lib.indexByte a c=-1
 | [],_=>rfl
 | x::a,h=>by
   simp only[G1q,not_or]at h
   have d:=Q1z c a h.2
   have f:¬ x=c:=λe=>h.1 e.symm
   simp[Lib.indexByte,d,f]
theorem indexByte_at(c:UInt8)(b:Str):∀a:Str,c∉a->Lib.indexByte (a++c::b) c=(a.length:Int)
 | [],_=>by simp[Lib.indexByte]
 | x::a,h=>by
   simp only[G1q,not_or]at h
   have d:=indexByte_at c b a h.2
   have f:¬ ((a.length:Int)=-1):=by omega
   have g:¬ x=c:=λe=>h.1 e.symm
   simp[Lib.indexByte,d,g,f]
theorem cut_free{c:UInt8}{a:Str}(h:c∉a):Lib.cut a [c]=(a,[],false):=by
 unfold Lib.cut
 rw[Lib.index_one,Q1z c a h]
 rfl
theorem cut_at{c:UInt8}{a:Str}(b:Str)(h:c∉a):Lib.cut (a++c::b) [c]=(a,b,true):=by
 unfold Lib.cut
 rw[Lib.index_one,indexByte_at c b a h,if_pos (by omega)]
 simp
theorem firstOf(c:UInt8):∀t:Str,c∉t\/∃a b,c∉a/\t=a++c::b
 | []=>.inl (by simp)
 | x::t=>by
   by_cases h:x=c
   ·exact .inr ⟨[],t,by simp,by rw[h];rfl⟩
   rcases firstOf c t with d|⟨a,b,d,h2⟩
   ·exact .inl (by simp only[G1q,not_or];exact⟨λe=>h e.symm,d⟩)
   exact .inr ⟨x::a,b,by simp only[G1q,not_or];exact⟨λe=>h e.symm,d⟩,by rw[h2];rfl⟩
theorem Q0u(pre:Str)(c:UInt8)(r:Str):sidx (pre++c::r) (pre.length:Int)=some (B c):=by
 rw[Z4o]
 simp[B]
theorem Q9c(pre:Str)(r:Str):Q0m (pre++r) (pre.length:Int) ((pre++r).length:Int)=some r:=by
 unfold Q0m
 rw[if_pos ⟨by omega,by simp only[G0i];omega,by omega⟩]
 have:(((pre++r).length:Int)).toNat-(pre.length:Int).toNat=r.length:=by simp only[G0i];omega
 rw[this,G2o]
 simp
theorem sslice_part(pre a r:Str):Q0m (pre++a++r) (pre.length:Int) ((pre++a).length:Int)=some a:=by
 unfold Q0m
 rw[if_pos ⟨by omega,by simp only[G0i];omega,by simp only[G0i];omega⟩]
 have:(((pre++a).length:Int)).toNat-(pre.length:Int).toNat=a.length:=by simp only[G0i];omega
 rw[this,G2o]
 simp
theorem Bf{c d:UInt8}{k:Int}(hk:B d=k)(h:c≠d):decide (B c=k)=false:=by
 subst hk
 exact(Q2c c d).trans (G0d h)
theorem J1u(s e:Str)(g at_:Int)(l:Int->Option (Str×Int×Int))(x:s.length<=1000000):∀ (a pre rest:Str) (n:Nat),(10:UInt8)∉a->s=pre++a++rest->(rest=[]\/∃b,rest=10::b)->a.length<n->
 iter (Q8w s g e at_ l) n (pre.length:Int)=(Q0m s g ((pre++a).length:Int)).bind λt21=>
  bif decide (t21=e)then(Q0m s at_ g).bind λy=>some (y,imin (((pre++a).length:Int)+1) (s.length:Int),0)
  else l (((pre++a).length:Int)+1)
 | _,_,_,0,_,_,_,h=>absurd h (G1t _)
 | [],pre,rest,n+1,k,hs,m,t=>by
   have o:s.length=pre.length+rest.length:=by rw[hs];simp
   show Q8w s _ _ _ _ _ _=_
   rw[Q8w]
   rcases m with rfl|⟨b,rfl⟩
   ·have f:decide ((pre.length:Int)<(s.length:Int))=false:=G0d (by simp at o;omega)
    rw[f]
    simp only[Q0e,Q0a,G0a,G1o,G1s]
    rw[Q0f (by omega) (by omega)]
   have f:decide ((pre.length:Int)<(s.length:Int))=true:=G0e (by simp at o;omega)
   have p:sidx s (pre.length:Int)=some (B 10):=by rw[hs,G1s];exact Q0u pre 10 b
   have q:decide (B 10=10)=true:=by decide
   rw[f,p]
   simp only[Q0e,Q0b,G0a,G1i,q,G0u,Q0a,G1s]
   rw[Q0f (by omega) (by omega)]
 | c::a,pre,rest,n+1,k,hs,m,t=>by
   simp only[G1q,not_or]at k
   have o:s.length=pre.length+(a.length+1)+rest.length:=by rw[hs];simp;omega
   have f:decide ((pre.length:Int)<(s.length:Int))=true:=G0e (by omega)
   have p:sidx s (pre.length:Int)=some (B c):=by
    rw[hs,G0z]
    exact Q0u pre c (a++rest)
   have q:decide (B c=10)=false:=Bf (d:=10) rfl λe=>k.1 e.symm
   show Q8w s _ _ _ _ _ _=_
   rw[Q8w,f,p]
   simp only[Q0e,Q0b,G0a,G1i,q,G0q]
   rw[Q0f (by omega) (by omega)]
   have u:=J1u s e g at_ l x a (pre++[c]) rest n k.2 (by rw[hs];simp) m (by simp at t;omega)
   have z:((pre++[c]).length:Int)=(pre.length:Int)+1:=by simp
   have A:pre++[c]++a=pre++c::a:=by simp
   rw[z,A]at u
   exact u
def res(e:Str):Str->List Str->List Int->Str×Int×Int
 | d,a::L,x::E=>if a=e then(d,x,0)else res e (d++(a++[10])) L E
 | _,_,_=>([],0,3)
def Q3p(L:List Str):Str:=L.flatMap (·++[10])
theorem both{s e pre:Str}(I:s.length<=1000000):∀ (k:Nat) (t d:Str),t.length<=k->s=pre++d++t->∃ (L:List Str) (E:List Int),L.length=E.length/\L.length<=t.length/\(Q3p L).length<=t.length+1/\
 (∀n g l,t.length<n->g.length+t.length<=3000000->l.length+t.length<=3000000->iter (Q6n s) n (((pre++d).length:Int),g,l)=some (g++L,l++E))/\
 (∀n,t.length<n->iter (Q2s s e (pre.length:Int)) n ((pre++d).length:Int)=some (res e d L E)):=by
 have z:∀ (t d:Str),t=[]->s=pre++d++t->
  (∀n g l,t.length<n->iter (Q6n s) n (((pre++d).length:Int),g,l)=some (g,l))/\
  (∀n (p:Int),t.length<n->(s.length:Int)<=p->iter (Q2s s e (pre.length:Int)) n p=some ([],0,3)):=by
  intro t d q hs
  subst q
  have A:s.length=(pre++d).length:=by rw[hs];simp
  refine⟨λn g l f=>?_,λn p f hp=>?_⟩
  ·match n,f with
   | n+1,_=>
     show Q6n s _ _=_
     rw[Q6n,G0d (by omega),Q0a]
  match n,f with
  | n+1,_=>
    show Q2s s _ _ _ _=_
    rw[Q2s,G0d (by omega),Q0a]
 intro k
 induction k with
 | zero=>
   intro t d q hs
   have q:t=[]:=G3c.1 (by omega)
   have o:=z t d q hs
   subst q
   have A:s.length=(pre++d).length:=by rw[hs];simp
   exact⟨[],[],rfl,G0o _,by simp[Q3p],λn g l f _ _=>by rw[G1s,G1s];exact o.1 n g l f,λn f=>o.2 n _ f (by omega)⟩
 | succ k O=>
   intro t d q hs
   by_cases C:t=[]
   ·have o:=z t d C hs
    subst C
    have A:s.length=(pre++d).length:=by rw[hs];simp
    exact⟨[],[],rfl,G0o _,by simp[Q3p],λn g l f _ _=>by rw[G1s,G1s];exact o.1 n g l f,λn f=>o.2 n _ f (by omega)⟩
   have Q:0<t.length:=G4a.2 C
   have A:s.length=(pre++d).length+t.length:=by rw[hs];simp;omega
   have x:decide (((pre++d).length:Int)<(s.length:Int))=true:=G0e (by omega)
   have F:Q0m s ((pre++d).length:Int) (s.length:Int)=some t:=by
    rw[hs]
    exact Q9c (pre++d) t
   have J:Q0m s (pre.length:Int) ((pre++d).length:Int)=some d:=by
    rw[hs]
    exact sslice_part pre d t
   rcases firstOf 10 t with u|⟨a,b,u,rfl⟩
   ·have ad:s=(pre++(d++t))++[]:=by rw[hs];simp
    have o:=z [] (d++t) rfl (by rw[hs];simp)
    have H:(((pre++(d++t)).length:Nat):Int)=((pre++d).length:Int)+(t.length:Int):=by simp;omega
    refine⟨[t],[((pre++d).length:Int)+(t.length:Int)],rfl,Q,by simp[Q3p],λn g l f U V=>?_,λn f=>?_⟩
    ·match n,f with
     | n+1,f=>
       show Q6n s _ _=_
       rw[Q6n,x,Q0b,F]
       simp only[G0a]
       rw[Z4k,if_pos (by omega),cut_free u]
       simp only[G0a,Q0a]
       rw[Q0f (n:=((pre++d).length:Int)+(t.length:Int)) (by omega) (by omega),appO,if_pos (by simp;omega)]
       simp only[G0a]
       rw[appO,if_pos (by simp;omega)]
       simp only[G0a]
       have:=o.1 n (g++[t]) (l++[((pre++d).length:Int)+(t.length:Int)]) (by simp;omega)
       rw[H]at this
       exact this
    match n,f with
    | n+1,f=>
      show Q2s s _ _ _ _=_
      rw[Q2s,x,Q0b,J1u s e _ _ _ I t (pre++d) [] BIG u (by rw[hs,G1s]) (.inl rfl) (by unfold BIG;omega)]
      have y:((pre++d++t).length:Int)=(s.length:Int):=by rw[hs]
      rw[y,F]
      simp only[G0a,J]
      by_cases m:t=e
      ·rw[G0e m,Q0b,res,if_pos m]
       have:imin ((s.length:Int)+1) (s.length:Int)=((pre++d).length:Int)+(t.length:Int):=by unfold imin;split<;>omega
       rw[this]
      rw[G0d m,Q0a,res,if_neg m]
      exact o.2 n _ (by simp;omega) (by omega)
   have hb:b.length<=k:=by simp at q;omega
   have W:s=pre++(d++(a++[10]))++b:=by rw[hs];simp
   obtain⟨L,E,X,q2,Y,K,M⟩:=O b (d++(a++[10])) hb W
   have H:(((pre++(d++(a++[10]))).length:Nat):Int)=((pre++d).length:Int)+(a.length:Int)+1:=by simp;omega
   rw[H]at K M
   have af:(a++10::b).length=a.length+b.length+1:=by simp;omega
   refine⟨a::L,(((pre++d).length:Int)+(a.length:Int)+1)::E,by simp[X],by simp;omega,by simp[Q3p]at Y |-;omega,λn g l f U V=>?_,λn f=>?_⟩
   ·match n,f with
    | n+1,f=>
      show Q6n s _ _=_
      rw[Q6n,x,Q0b,F]
      simp only[G0a]
      rw[Z4k,if_pos (by omega),cut_at b u]
      simp only[G0a,Q0b]
      rw[Q0f (n:=((pre++d).length:Int)+(a.length:Int)) (by omega) (by omega),Q0f (by omega) (by omega),appO,if_pos (by simp;omega)]
      simp only[G0a]
      rw[appO,if_pos (by simp;omega)]
      simp only[G0a]
      have:=K n (g++[a]) (l++[((pre++d).length:Int)+(a.length:Int)+1]) (by omega) (by simp;omega) (by simp;omega)
      rw[this]
      simp
   match n,f with
   | n+1,f=>
     show Q2s s _ _ _ _=_
     rw[Q2s,x,Q0b,J1u s e _ _ _ I a (pre++d) (10::b) BIG u (by rw[hs];simp) (.inr ⟨b,rfl⟩) (by unfold BIG;omega)]
     have aa:Q0m s ((pre++d).length:Int) ((pre++d++a).length:Int)=some a:=by
      have:s=(pre++d)++a++10::b:=by rw[hs];simp
      rw[this]
      exact sslice_part (pre++d) a (10::b)
     have y:((pre++d++a).length:Int)=((pre++d).length:Int)+(a.length:Int):=by simp;omega
     rw[aa]
     simp only[G0a,J]
     by_cases m:a=e
     ·rw[G0e m,Q0b,res,if_pos m,y]
      have:imin (((pre++d).length:Int)+(a.length:Int)+1) (s.length:Int)=((pre++d).length:Int)+(a.length:Int)+1:=by unfold imin;split<;>omega
      rw[this]
     rw[G0d m,Q0a,res,if_neg m,y]
     exact M n (by omega)
def G29(e:Str):Str->Int->Option Int->Option Int:=λw i n=>bif decide (e=w)then some i else n
theorem X9m(e:Str):∀ (L:List Str) (E:List Int) (d:Str) (i:Int),L.length=E.length->
 (Q4d (G29 e) (some (-1)) L i=some (-1)/\res e d L E=([],0,3)) \/
 ∃ (j:Nat) (x:Int),j<L.length/\Q4d (G29 e) (some (-1)) L i=some (i+j)/\E[j]?=some x/\res e d L E=(d++Q3p (L.take j),x,0)
 | [],_,d,i,_=>.inl ⟨rfl,by rw[res];intros;contradiction⟩
 | a::L,[],d,i,h=>by simp at h
 | a::L,x::E,d,i,h=>by
   by_cases f:a=e
   ·refine .inr ⟨0,x,by simp,?_,by simp,?_⟩
    ·rw[Q4d,G29,G0e f.symm,Q0b]
     simp
    rw[res,if_pos f]
    simp[Q3p]
   have l:=X9m e L E (d++(a++[10])) (i+1) (by simp at h;exact h)
   rw[Q4d,G29,G0d (λq=>f q.symm),Q0a,res,if_neg f]
   rcases l with⟨k,g⟩|⟨j,y,k,g,m,o⟩
   ·exact .inl ⟨k,g⟩
   refine .inr ⟨j+1,y,by simp;omega,?_,by simpa using m,?_⟩
   ·rw[g]
    congr 1
    omega
   rw[o]
   simp[Q3p]
theorem V8z(L:List Str)(e:Str)(h:L.length<=9223372036854775807):F118 L e=Q4d (G29 e) (some (-1)) L 0:=by
 unfold F118
 exact Q9l (body:=J6d L e) L (G29 e) (some (-1)) (λa i=>rfl) h
theorem Z5x:∀ (x:Str) (L:List Str),Lib.join (x::L) [10]++[10]=Q3p (x::L)
 | x,[]=>by rw[Lib.join_one];simp[Q3p]
 | x,y::L=>by
   have a:=Z5x y L
   rw[Lib.join_cons]at a |-
   simp only[Lib.joinTail,G2g,List.flatten_cons,Q3p,G5g]at a |-
   simp only[G0z]at a |-
   rw[<-a]
   try simp
theorem heres{s e:Str}{at_:Int}(hs:s.length<=1000000):∃r,F72 s at_ e=some r/\F54 s at_ e=some r:=by
 unfold F72 F54
 cases m:(decide (at_<0)||decide ((s.length:Int)<at_))with
 | true=>exact⟨_,rfl,rfl⟩
 | false=>
   simp only[G1x,G5v]at m
   obtain⟨L,E,o,p,K,k,d⟩:=both (s:=s) (e:=e) (pre:=s.take at_.toNat) hs (s.drop at_.toNat).length (s.drop at_.toNat) [] (G0o _) (by simp)
   have q:(((s.take at_.toNat++[]).length:Nat):Int)=at_:=by simp;omega
   have t:(((s.take at_.toNat).length:Nat):Int)=at_:=by simp;omega
   have hd:(s.drop at_.toNat).length<=1000000:=by simp;omega
   rw[q]at k d
   rw[t]at d
   have u:F117 s at_=some (L,E):=by
    have:=k BIG [] [] (by unfold BIG;omega) (by simp at hd |-;omega) (by simp at hd |-;omega)
    exact this
   have a2:iter (Q2s s e at_) BIG at_=some (res e [] L E):=d BIG (by unfold BIG;omega)
   simp only[Q0a]
   refine⟨res e [] L E,?_,a2⟩
   rw[u]
   simp only[G0a]
   rw[V8z L e (by omega)]
   rcases X9m e L E [] 0 o with⟨a,f⟩|⟨j,x,a,f,z,A⟩
   ·rw[a,f]
    rfl
   rw[f,A]
   simp only[G0a,Int.zero_add]
   have C:lidx E (j:Int)=some x:=by rw[Z4u];exact z
   rw[G0d (by omega),Q0a,C]
   by_cases F:0<j
   ·have H:Z5u L 0 (j:Int)=some (L.take j):=by
     unfold Z5u
     rw[if_pos ⟨by omega,by omega,by omega⟩]
     simp
    rw[G0e (by omega),Q0b,H]
    simp only[G0a]
    match L,j,F,a with
    | y::M,j+1,_,a=>
      have l:=Z5x y (M.take j)
      have I:(Q3p ((y::M).take (j+1))).length<=(Q3p (y::M)).length:=by
       have:Q3p (y::M)=Q3p ((y::M).take (j+1))++Q3p ((y::M).drop (j+1)):=by
        unfold Q3p
        rw[<-List.flatMap_append,G1v]
       rw[this,G0i]
       omega
      rw[G3r]at I |-
      have g:=G3t List.length l
      rw[G0i]at g
      have J:(y::M.take j).length<=140737488355328:=by
       simp at p |-
       simp at hd
       omega
      rw[J3l,if_pos ⟨by simp at g;omega,J⟩]
      simp only[G0a]
      rw[X4j (by simp at g |-;omega),l]
      simp
   have:j=0:=by omega
   subst this
   simp[Q3p]
def BAD:Str:=[32,9,10,59,38,124,40,41,123,125,60,62,61,94,96,36,39,92,42,63,91]
def badc(c:UInt8):Bool:=BAD.contains c
def Y0j(c:UInt8):Bool:=([35,33,64]:Str).contains c
def K6f:Str->Bool
 | []=>false
 | c::r=>!Y0j c&&(c::r).all λx=>!badc x
theorem X8z(c:UInt8):(B c).toNat.toUInt8=c:=by
 unfold B
 rw[G2o]
 exact G4s
theorem Q5w(c:UInt8):∀l:Str,decide (0<=Lib.indexByte l c)=l.contains c
 | []=>by simp[Lib.indexByte]
 | x::l=>by
   have f:=Q5w c l
   have k:=Lib.indexByte_ge l c
   rw[G4e,<-f]
   by_cases a:x=c
   ·subst a
    simp[Lib.indexByte]
   have g:(c==x)=false:=by simp;exact λe=>a e.symm
   rw[g,G1p]
   by_cases d:Lib.indexByte l c=-1
   ·have:Lib.indexByte (x::l) c=-1:=by simp[Lib.indexByte,a,d]
    rw[this,d]
   have:Lib.indexByte (x::l) c=Lib.indexByte l c+1:=by simp[Lib.indexByte,a,d]
   rw[this,G0e (by omega),G0e (by omega)]
theorem K3b(c:UInt8)(l:Str):decide (Lib.indexByte l c<0)=!l.contains c:=by
 rw[<-Q5w c l]
 by_cases h:(0:Int)<=Lib.indexByte l c
 ·rw[G0e h,G0d (by omega)];rfl
 rw[G0d h,G0e (by omega)];rfl
def SYM:Str:=[10,59,38,124,40,41,123,125,60,62,61,94,96,36,39]
def G27(c:Int):Int->Int->Option Bool->Option Bool:=λx _ n=>bif decide (x=c)then some true else n
theorem X9n(b:UInt8):∀ (l:Str) (i:Int),Q4d (G27 (B b)) (some false) (l.map B) i=some (l.contains b)
 | [],_=>rfl
 | x::l,i=>by
   rw[G2g,Q4d,G27,X9n b l (i+1),G4e]
   have h:decide (B x=B b)=decide (x=b):=Q2c x b
   rw[h]
   by_cases a:x=b
   ·subst a;simp
   have d:(b==x)=false:=by simp;exact λe=>a e.symm
   rw[G0d a,d]
   rfl
theorem X5l(b:UInt8)(l:Str)(a:l.length<=1000000):F136 (B b) l=some (l.contains b):=by
 unfold F136
 rw[Q7j (body:=J6c l (B b)) l (G27 (B b)) (some false) (λd i=>rfl) (by omega),X9n]
def nl:Str->Bool
 | []=>false
 | d::_=>decide (d=10)
theorem B32(c:UInt8):decide (B c=32)=decide (c=32):=Q2c c 32
theorem B9(c:UInt8):decide (B c=9)=decide (c=9):=Q2c c 9
theorem B92(c:UInt8):decide (B c=92)=decide (c=92):=Q2c c 92
theorem B10(c:UInt8):decide (B c=10)=decide (c=10):=Q2c c 10
theorem B39(c:UInt8):decide (B c=39)=decide (c=39):=Q2c c 39
theorem B35(c:UInt8):decide (B c=35)=decide (c=35):=Q2c c 35
def gap(c:UInt8)(r:Str):Int:=bif decide (c=32)||decide (c=9)then 1 else bif decide (c=92)&&nl r then 2 else 0
theorem Z0c{s pre:Str}{c:UInt8}{r:Str}(hs:s=pre++c::r)(g:s.length<=1000000):F88 s (pre.length:Int)=some (gap c r):=by
 have a:s.length=pre.length+(r.length+1):=by rw[hs];simp
 have e:sidx s (pre.length:Int)=some (B c):=by rw[hs];exact Q0u pre c r
 unfold F88 gap
 rw[G0e (by omega),e]
 simp only[Q0e,Q0b,G0a,G1i,B32,B9]
 cases decide (c=32)||decide (c=9)with
 | true=>rfl
 | false=>
   simp only[Q0a]
   rw[Q0f (by omega) (by omega)]
   match r,hs with
   | [],hs=>
     rw[G0d (by simp at a;omega)]
     simp[Q0e,nl]
   | d::r,hs=>
     have f:sidx s ((pre.length:Int)+1)=some (B d):=by
      have:s=(pre++[c])++d::r:=by rw[hs];simp
      have h:=Q0u (pre++[c]) d r
      rw[<-this]at h
      simpa using h
     rw[G0e (by simp at a;omega)]
     simp only[Q0b,G0a,G1i,B92]
     cases decide (c=92)with
     | false=>simp[Q0e]
     | true=>
       simp only[Q0b,f,G0a,B10,G1i,nl]
       cases decide (d=10)<;>rfl
theorem V8j{s pre:Str}{c:UInt8}{r:Str}(hs:s=pre++c::r)(a:s.length<=1000000):F138 s (pre.length:Int)=some (decide (gap c r=0)&&!SYM.contains c):=by
 have e:s.length=pre.length+(r.length+1):=by rw[hs];simp
 have d:sidx s (pre.length:Int)=some (B c):=by rw[hs];exact Q0u pre c r
 unfold F138
 rw[G0e (by omega),Z0c hs a,d]
 simp only[Q0e,Q0b,G0a,G1i]
 cases decide (gap c r=0)with
 | false=>rfl
 | true=>
   simp only[Q0b,G0a]
   have:=X5l c SYM (by decide)
   unfold SYM at this |-
   rw[this]
   rfl
def dbl:Str->Str
 | []=>[]
 | c::r=>if c=39 then 39::39::dbl r else c::dbl r
def quote(s:Str):Str:=bif K6f s then s else 39::(dbl s++[39])
theorem Z2c(pre:Str)(c:UInt8)(r:Str):Q0m (pre++c::r) (pre.length:Int) ((pre.length:Int)+1)=some [c]:=by
 have h:=sslice_part pre [c] r
 simpa using h
theorem Q9b{s pre t:Str}(hs:s=pre++t)(a d e:Int)(f:List Token)(g:List Str):Z4l s (pre.length:Int) a d e f g=some t:=by
 unfold Z4l
 subst hs
 rw[Q9c]
 rfl
theorem Q6f(s p:Str)(d:s.length<=1000000):F42 s p=some (p.isPrefixOf s):=by
 unfold F42 F74
 by_cases h:p.length<=s.length
 ·have a:Q0m s 0 (p.length:Int)=some (s.take p.length):=by
   unfold Q0m
   rw[if_pos ⟨by omega,by omega,by omega⟩]
   simp
  rw[G0e (by omega),a]
  simp only[Q0e,Q0b,G0a,G1i]
  congr 1
  rw[G5t,G0s,G2c,List.prefix_iff_eq_take]
  exact⟨λe=>e.symm,λe=>e.symm⟩
 rw[G0d (by omega)]
 simp only[Q0e,Q0a,G0a,G1o]
 congr 1
 symm
 rw[G6a]
 intro e
 have:=List.IsPrefix.length_le (G2c.1 e)
 omega
def SYMI:Str:=[32,9,10,59,38,124,40,41,123,125,60,62,61,94,96,36,39]
def ord:Str->Bool
 | []=>false
 | c::r=>!SYMI.contains c&&!([92,10]:Str).isPrefixOf (c::r)
theorem X5n{s pre t:Str}(hs:s=pre++t)(m:s.length<=1000000)(a d e:Int)(f:List Token)(g:List Str):Z9l s (pre.length:Int) a d e f g=some (ord t):=by
 unfold Z9l
 rw[Q9b hs]
 match t,hs with
 | [],hs=>rfl
 | c::r,hs=>
   have o:s.length=pre.length+(r.length+1):=by rw[hs];simp
   have k:sidx (c::r) 0=some (B c):=Q0u [] c r
   rw[G0a,G0d (by simp),k]
   simp only[G0q,Q0e,Q0b,G0a,Q0h,X8z,G1i]
   rw[K3b]
   show((bif !SYMI.contains c then F42 (c::r) [92,10]else some default).bind λl=>some (!SYMI.contains c&&!l))=some (!SYMI.contains c&&!([92,10]:Str).isPrefixOf (c::r))
   cases SYMI.contains c with
   | true=>rfl
   | false=>
     rw[Q6f _ _ (by simp;omega)]
     rfl
theorem Z2e(c:UInt8):∀n:Nat,Lib.repeatL [c] n=List.replicate n c
 | 0=>rfl
 | n+1=>by
   rw[Lib.repeatL,Z2e c n,List.replicate_succ]
   rfl
def START:Str:=[59,38,40,41,123,125,61,94,96,36,33,64]
theorem X2a{p c:UInt8}{q r:Str}(h:c≠p):(p::q).isPrefixOf (c::r)=false:=by
 have:(p==c)=false:=by simp;exact λe=>h e.symm
 simp[List.isPrefixOf,this]
theorem Q0p(p c:UInt8)(q r:Str):(p::q).isPrefixOf (c::r)=(decide (c=p)&&q.isPrefixOf r):=by
 by_cases h:c=p
 ·subst h;simp[List.isPrefixOf]
 rw[X2a h,G0d h];rfl
theorem Z0j(p:UInt8)(q:Str):(p::q).isPrefixOf []=false:=rfl
def blankN:Str->Nat
 | []=>0
 | [c]=>if c=32\/c=9 then 1 else 0
 | c::d::r=>if c=32\/c=9 then 1+blankN (d::r)else if c=92/\d=10 then 2+blankN r else 0
theorem Q5b:∀ (k:Nat) (t:Str),t.length<=k->blankN t<=t.length
 | _,[],_=>G0o _
 | _,[c],_=>by unfold blankN;split<;>simp
 | 0,c::d::r,h=>by simp at h
 | k+1,c::d::r,h=>by
   have a:=Q5b k (d::r) (by simp at h |-;omega)
   have e:=Q5b k r (by simp at h |-;omega)
   unfold blankN
   simp only[G0h]at a |-
   split
   ·omega
   split<;>omega
theorem K6w{s:Str}(J:s.length<=1000000)(m o p:Int)(q:List Token)(u:List Str):∀ (k:Nat) (t pre:Str) (n:Nat),t.length<=k->s=pre++t->t.length<n->
 iter (Q3m s m o p q u) n (pre.length:Int)=some ((pre.length+blankN t:Nat):Int):=by
 intro k
 induction k with
 | zero=>
   intro t pre n f hs a
   have f:t=[]:=G3c.1 (by omega)
   subst f
   match n,a with
   | n+1,a=>
     show Q3m s _ _ _ _ _ _ _=_
     rw[Q3m,Q9b hs,G0a,Q6f _ _ (by simp),G0a,Q6f _ _ (by simp),Z0j,Z0j]
     simp only[G0q,Q0e,Q0b,G0a,G2n,Q0a]
     rw[Q6f _ _ (by simp),Z0j,G0a,Q0a]
     rfl
 | succ k x=>
   intro t pre n f hs a
   match t,f,hs,a with
   | [],f,hs,a=>exact x [] pre n (by simp) hs a
   | c::r,f,hs,a=>
     match n,a with
     | n+1,a=>
       have y:s.length=pre.length+(r.length+1):=by rw[hs];simp
       have z:(c::r).length<=1000000:=by simp;omega
       have C:((pre++[c]).length:Int)=(pre.length:Int)+1:=by simp
       simp only[G0h]at f a
       show Q3m s _ _ _ _ _ _ _=_
       rw[Q3m,Q9b hs,G0a,Q6f _ _ z,G0a,Q6f _ _ z,Q0p,Q0p]
       have E:((Q0e (!(decide (c=32)&&([]:Str).isPrefixOf r)) (some (decide (c=9)&&([]:Str).isPrefixOf r))).bind λF=>bif ((decide (c=32)&&([]:Str).isPrefixOf r)||F)then iter (Q3m s m o p q u) n (IntKind.wrap .i64 ((pre.length:Int)+1))else(F42 (c::r) [92,10]).bind λH=>bif H then iter (Q3m s m o p q u) n (IntKind.wrap .i64 ((pre.length:Int)+2))else some (pre.length:Int))=
        bif decide (c=32\/c=9)then iter (Q3m s m o p q u) n ((pre.length:Int)+1)else bif decide (c=92)&&([10]:Str).isPrefixOf r then iter (Q3m s m o p q u) n ((pre.length:Int)+2)else some (pre.length:Int):=by
        rw[Q0f (by omega) (by omega),Q0f (by omega) (by omega),Q6f _ _ z,Q0p]
        have A:([]:Str).isPrefixOf r=true:=by cases r<;>rfl
        rw[A]
        by_cases g:c=32<;>by_cases l:c=9<;>simp[g,l,Q0e]
       refine E.trans ?_
       by_cases g:c=32\/c=9
       ·rw[G0e g,Q0b]
        have:=x r (pre++[c]) n (by omega) (by rw[hs];simp) (by omega)
        rw[C]at this
        rw[this]
        match r with
        | []=>simp[blankN,g]
        | d::r=>simp[blankN,g];omega
       rw[G0d g,Q0a]
       match r,hs,y,f,a with
       | [],hs,y,f,a=>simp[Z0j,blankN,g]
       | d::r,hs,y,f,a=>
         have A:([]:Str).isPrefixOf r=true:=by cases r<;>rfl
         rw[Q0p,A,G2x]
         by_cases l:c=92/\d=10
         ·rw[G0e l.1,G0e l.2,G2x,Q0b]
          have I:((pre++[c,d]).length:Int)=(pre.length:Int)+2:=by simp
          have:=x r (pre++[c,d]) n (by simp at f;omega) (by rw[hs];simp) (by simp at a;omega)
          rw[I]at this
          rw[this]
          simp[blankN,g,l]
          omega
         have:(decide (c=92)&&decide (d=10))=false:=by
          rw[G6a]
          intro e
          simp at e
          exact l e
         rw[this,Q0a]
         simp only[blankN,if_neg g,if_neg l,G2j]
theorem K1e{s pre t:Str}(hs:s=pre++t)(k:s.length<=1000000)(a d e:Int)(f:List Token)(g:List Str):J5w s (pre.length:Int) a d e f g=some ((pre.length+blankN t:Nat):Int):=by
 have l:s.length=pre.length+t.length:=by rw[hs];simp
 unfold J5w
 exact K6w k a d e f g t.length t pre BIG (G0o _) hs (by unfold BIG;omega)
def qd:Str->Option (Str×Nat)
 | []=>none
 | [c]=>if c=39 then some ([],1)else none
 | c::d::r=>if c=39 then(if d=39 then(qd r).map λ(x,n)=>(39::x,n+2)else some ([],1))else(qd (d::r)).map λ(x,n)=>(c::x,n+1)
theorem X1w:∀a:Str,(39:UInt8)∉a->qd a=none
 | [],_=>rfl
 | [c],h=>by
   simp only[G1q,not_or,G6x,G5j,G5s]at h
   rw[qd,if_neg (λe=>h e.symm)]
 | c::d::r,h=>by
   have h':=h
   rw[G1q,not_or]at h
   rw[qd,if_neg (λe=>h.1 e.symm),X1w (d::r) h.2]
   rfl
theorem X9i(w:Str):∀a:Str,(39:UInt8)∉a->qd (a++39::w)=(qd (39::w)).map λ(x,n)=>(a++x,n+a.length)
 | [],_=>by
   cases h:qd (39::w)<;>simp[h]
 | [c],h=>by
   simp only[G1q,not_or,G6x,G5j,G5s]at h
   show qd (c::39::w)=_
   rw[qd,if_neg (λe=>h e.symm)]
   rfl
 | c::d::r,h=>by
   have h':=h
   rw[G1q,not_or]at h
   have f:=X9i w (d::r) h.2
   show qd (c::d::(r++39::w))=_
   rw[qd,if_neg (λe=>h.1 e.symm)]
   show((qd (d::r++39::w)).map _)=_
   rw[f]
   cases qd (39::w)with
   | none=>rfl
   | some p=>rcases p with⟨x,n⟩;rfl
theorem K2c{w:Str}(h:([39]:Str).isPrefixOf w=false):qd (39::w)=some ([],1):=by
 match w,h with
 | [],_=>rfl
 | d::r,h=>
   have a:([]:Str).isPrefixOf r=true:=by cases r<;>rfl
   rw[Q0p,a,G2x]at h
   rw[qd,if_pos rfl,if_neg (G4m h)]
theorem X9h(w:Str):qd (39::39::w)=(qd w).map λ(x,n)=>(39::x,n+2):=by
 rw[qd,if_pos rfl,if_pos rfl]
theorem J2h:∀ (k:Nat) (v x:Str) (m:Nat),v.length<=k->qd v=some (x,m)->1<=m/\m<=v.length/\x.length<=m
 | _,[],x,m,_,h=>by simp[qd]at h
 | _,[c],x,m,_,h=>by
   unfold qd at h
   split at h
   ·simp at h;obtain⟨rfl,rfl⟩:=h;simp
   simp at h
 | 0,c::d::r,x,m,hk,h=>by simp at hk
 | k+1,c::d::r,x,m,hk,h=>by
   simp only[G0h]at hk |-
   unfold qd at h
   split at h
   ·split at h
    ·cases hq:qd r with
     | none=>rw[hq]at h;simp at h
     | some p=>
       rcases p with⟨y,n⟩
       rw[hq]at h
       simp at h
       obtain⟨rfl,rfl⟩:=h
       have:=J2h k r y n (by omega) hq
       simp
       omega
    simp at h;obtain⟨rfl,rfl⟩:=h;simp
   cases hq:qd (d::r)with
   | none=>rw[hq]at h;simp at h
   | some p=>
     rcases p with⟨y,n⟩
     rw[hq]at h
     simp at h
     obtain⟨rfl,rfl⟩:=h
     have:=J2h k (d::r) y n (by simp;omega) hq
     simp only[G0h]at this |-
     omega
def X0a(s:Str)(a d e:Int)(b:Str)(p:Nat)(v:Str)(r:Option (Str×Bool×Int×Int×Int)):Prop:=
 match qd v with
 | some (x,m)=>r=some (b++x,true,((p+m:Nat):Int),d,e)
 | none=>∃i,r=some ([],false,i,a,48)
theorem K6r{s:Str}(K:s.length<=1000000)(p q f g:Int)(u:List Token)(x:List Str):∀ (k:Nat) (v pre b:Str) (n:Nat),v.length<=k->s=pre++v->v.length<n->b.length+v.length<=10000000->
 X0a s p f g b pre.length v (iter (Q2o s q f g u x p) n ((pre.length:Int),b)):=by
 intro k
 induction k with
 | zero=>
   intro v pre b n hk hs e hb
   have A:v=[]:=G3c.1 (by omega)
   subst A
   match n,e with
   | n+1,e=>
     refine⟨(pre.length:Int),?_⟩
     show Q2o s _ _ _ _ _ _ _ _=_
     rw[Q2o,Q9b hs,G0a,Q0h,G0a]
     rfl
 | succ k C=>
   intro v pre b n hk hs e hb
   match n,e with
   | n+1,e=>
     have z:(39:Int).toNat.toUInt8=39:=by decide
     rcases firstOf 39 v with l|⟨a,w,l,rfl⟩
     ·unfold X0a
      rw[X1w v l]
      refine⟨(pre.length:Int),?_⟩
      show Q2o s _ _ _ _ _ _ _ _=_
      rw[Q2o,Q9b hs,G0a,Q0h,G0a,z,Q1z 39 v l]
      rfl
     have L:s.length=pre.length+(a.length+(w.length+1)):=by rw[hs];simp
     simp only[G0i,G0h]at hk e hb
     have E:Q0m s (pre.length:Int) (IntKind.wrap .i64 ((pre.length:Int)+(a.length:Int)))=some a:=by
      rw[Q0f (by omega) (by omega),hs]
      simpa using sslice_part pre a (39::w)
     have F:(pre.length:Int)+((a.length:Int)+1)=((pre++(a++[39])).length:Int):=by simp
     have H:w.length<=1000000:=by omega
     have I:iter (Q2o s q f g u x p) (n+1) ((pre.length:Int),b)=bif !([39]:Str).isPrefixOf w then some (b++a,true,((pre++(a++[39])).length:Int),f,g)else iter (Q2o s q f g u x p) n (IntKind.wrap .i64 (((pre++(a++[39])).length:Int)+1),b++a++[39]):=by
      show Q2o s _ _ _ _ _ _ _ _=_
      rw[Q2o,Q9b hs,G0a,Q0h,G0a,z,indexByte_at 39 w a l,G0d (by omega),Q0a,E,G0a,Q1k,if_pos (by omega),G0a]
      dsimp only
      rw[Q0f (n:=(a.length:Int)+1) (by omega) (by omega),Q0f (n:=(pre.length:Int)+((a.length:Int)+1)) (by omega) (by omega),F,Q9b (t:=w) (by rw[hs];simp),G0a,Q6f _ _ H,G0a,Q1v,if_pos ⟨by decide,by decide,by simp;omega⟩,G0a,z]
      rfl
     rw[I]
     unfold X0a
     rw[X9i w a l]
     cases o:([39]:Str).isPrefixOf w with
     | false=>
       rw[K2c o]
       show _=_
       rw[G0q,Q0b]
       simp
       omega
     | true=>
       rw[G0u,Q0a]
       match w,o with
       | d::w,o=>
         have hd:d=39:=by
          rw[Q0p,G0k,G0s]at o
          exact o.1
         subst hd
         rw[X9h,Q0f (by simp;omega) (by simp;omega)]
         have J:((pre++(a++[39])).length:Int)+1=((pre++(a++[39,39])).length:Int):=by simp;omega
         have:=C w (pre++(a++[39,39])) (b++a++[39]) n (by simp at hk;omega) (by rw[hs];simp) (by simp at e;omega) (by simp at hb |-;omega)
         rw[J]
         unfold X0a at this
         cases hq:qd w with
         | none=>
           rw[hq]at this
           exact this
         | some y=>
           rcases y with⟨y,m⟩
           rw[hq]at this
           show _=_
           rw[this]
           simp
           omega
theorem V8o{s pre v:Str}{c:UInt8}(hs:s=pre++c::v)(k:s.length<=1000000)(e a d:Int)(f:List Token)(g:List Str):X0a s (pre.length:Int) a d [] (pre.length+1) v (Z7p s (pre.length:Int) e a d f g):=by
 have o:s.length=pre.length+(v.length+1):=by rw[hs];simp
 unfold Z7p
 rw[Q0f (by omega) (by omega)]
 have:=K6r (s:=s) k (pre.length:Int) e a d f g v.length v (pre++[c]) [] BIG (G0o _) (by rw[hs];simp) (by unfold BIG;omega) (by simp;omega)
 have l:((pre++[c]).length:Int)=(pre.length:Int)+1:=by simp
 have m:(pre++[c]).length=pre.length+1:=by simp
 rw[l,m]at this
 exact this
def wd:Nat->Str->Except Nat (Str×Str×Nat)
 | 0,_=>.ok ([],[],0)
 | _+1,[]=>.ok ([],[],0)
 | k+1,c::r=>bif ord (c::r)then(match wd k r with
    | .error e=>.error (e+1)
    | .ok (x,q,n)=>.ok (c::x,48::q,n+1))
   else if c=39 then(match qd r with
    | none=>.error 0
    | some (x,m)=>match wd k (r.drop m)with
      | .error e=>.error (e+(m+1))
      | .ok (y,q,n)=>.ok (x++y,List.replicate x.length 49++q,n+(m+1)))
   else .ok ([],[],0)
def K4f(a d:Int)(b q:Str)(p:Nat)(w:Except Nat (Str×Str×Nat))(r:Option (Str×Str×Bool×Int×Int×Int)):Prop:=
 match w with
 | .ok (x,y,m)=>r=some (b++x,q++y,true,((p+m:Nat):Int),a,d)
 | .error e=>∃i,r=some ([],[],false,i,((p+e:Nat):Int),48)
theorem K6u{s:Str}(C:s.length<=1000000)(l:Int)(o:List Token)(p:List Str)(f g:Int):∀ (k:Nat) (t pre b q:Str) (n:Nat),t.length<=k->s=pre++t->t.length<n->b.length+t.length<=10000000->q.length+t.length<=10000000->
 K4f f g b q pre.length (wd k t) (iter (Q4q s l o p) n ((pre.length:Int),f,g,b,q)):=by
 have none:∀ (pre b q:Str) (n:Nat),s=pre++[]->0<n->iter (Q4q s l o p) n ((pre.length:Int),f,g,b,q)=some (b++[],q++[],true,((pre.length+0:Nat):Int),f,g):=by
  intro pre b q n hs d
  match n,d with
  | n+1,d=>
    show Q4q s _ _ _ _ _=_
    rw[Q4q,X5n hs C,G0a]
    show(bif false then _ else _)=_
    rw[Q0a,Q9b hs,G0a,Q6f _ _ (by simp),G0a]
    show(bif false then _ else _)=_
    rw[Q0a,Q3z,Q3z]
    simp
 intro k
 induction k with
 | zero=>
   intro t pre b q n hk hs d hb hq
   have K:t=[]:=G3c.1 (by omega)
   subst K
   exact none pre b q n hs (by omega)
 | succ k H=>
   intro t pre b q n hk hs d hb hq
   match t,hk,hs,d,hb,hq with
   | [],hk,hs,d,hb,hq=>exact none pre b q n hs (by omega)
   | c::r,hk,hs,d,hb,hq=>
     match n,d with
     | n+1,d=>
       have Y:s.length=pre.length+(r.length+1):=by rw[hs];simp
       have L:sidx s (pre.length:Int)=some (B c):=by rw[hs];exact Q0u pre c r
       have M:((pre++[c]).length:Int)=(pre.length:Int)+1:=by simp
       have I:0<=B c/\B c<=255:=by
        have:=G7d c
        unfold B
        omega
       simp only[G0h]at hk d hb hq
       rw[wd]
       show K4f f g b q pre.length _ (Q4q s l o p _ _)
       cases J:ord (c::r)with
       | true=>
         rw[Q4q,X5n hs C,J,G0a,Q0b,L,G0a,Q1v,if_pos ⟨I.1,I.2,by omega⟩,X8z,G0a,Q1v,if_pos ⟨by decide,by decide,by omega⟩,G0a,Q0f (by omega) (by omega)]
         have O:((48:Int).toNat.toUInt8)=48:=by decide
         have a:=H r (pre++[c]) (b++[c]) (q++[48]) n (by omega) (by rw[hs];simp) (by omega) (by simp;omega) (by simp;omega)
         rw[M]at a
         rw[O,Q0b]
         cases u:wd k r with
         | error e=>
           rw[u]at a
           obtain⟨i,z⟩:=a
           refine⟨i,?_⟩
           rw[z]
           simp
           omega
         | ok y=>
           rcases y with⟨x,y,m⟩
           rw[u]at a
           show _=_
           refine G7i a ?_
           simp
           omega
       | false=>
         have Q:(c::r).length<=1000000:=by simp;omega
         have U:([]:Str).isPrefixOf r=true:=by cases r<;>rfl
         rw[Q4q,X5n hs C,J,G0a,Q0a,Q0a,Q9b hs,G0a,Q6f _ _ Q,G0a,Q0p,U,G2x]
         by_cases E:c=39
         ·subst E
          rw[G0e rfl,Q0b,if_pos rfl]
          have A:=V8o hs C l f g o p
          unfold X0a at A
          cases F:qd r with
          | none=>
            rw[F]at A
            obtain⟨i,z⟩:=A
            refine⟨i,?_⟩
            rw[z,G0a]
            rfl
          | some y=>
            rcases y with⟨x,m⟩
            rw[F]at A
            have V:Z7p s (pre.length:Int) l f g o p=some ([]++x,true,((pre.length+1+m:Nat):Int),f,g):=A
            obtain⟨g1,g2,g3⟩:=J2h r.length r x m (G0o _) F
            rw[V,G0a]
            dsimp only
            have W:Q2r [49] (x.length:Int)=some (List.replicate x.length 49):=by
             unfold Q2r
             rw[if_pos ⟨by omega,by omega,by simp;omega⟩]
             congr 1
             rw[G2o]
             exact Z2e 49 x.length
            rw[G1y,G0u,Q0a,Q1k,if_pos (by omega),G0a]
            dsimp only
            rw[W,G0a,Q1k,if_pos (by simp;omega),G0a]
            dsimp only
            have a:=H (r.drop m) (pre++(39::r.take m)) (b++x) (q++List.replicate x.length 49) n (by simp;omega) (by rw[hs];simp) (by simp;omega) (by simp;omega) (by simp;omega)
            have X:(pre++(39::r.take m)).length=pre.length+1+m:=by simp;omega
            rw[X]at a
            cases u:wd k (r.drop m)with
            | error e=>
              rw[u]at a
              obtain⟨i,z⟩:=a
              refine⟨i,?_⟩
              rw[z]
              simp
              omega
            | ok y=>
              rcases y with⟨x',y,m'⟩
              rw[u]at a
              show _=_
              refine G7i a ?_
              simp
              omega
         rw[G0d E,Q0a,if_neg E,Q3z,Q3z]
         show _=_
         simp
theorem K1c{s pre t:Str}(hs:s=pre++t)(k:s.length<=1000000)(e a d:Int)(f:List Token)(g:List Str):K4f a d [] [] pre.length (wd t.length t) (J1h s (pre.length:Int) e a d f g):=by
 have l:s.length=pre.length+t.length:=by rw[hs];simp
 unfold J1h
 exact K6u k e f g a d t.length t pre [] [] BIG (G0o _) hs (by unfold BIG;omega) (by simp;omega) (by simp;omega)
def push(l:List Token)(u:Token):Except (Int×Int) (List Token):=if 1024<=l.length then .error (u.at_,4)else .ok (l++[u])
def ansL(a d:Int)(w:Except (Int×Int) (List Token))(r:Option (Bool×Int×Int×List Token)):Prop:=
 match w with
 | .ok l=>r=some (true,a,d,l)
 | .error (p,c)=>∃l,r=some (false,p,c,l)
theorem Z9c(u:Token)(s:Str)(e f a d:Int)(l:List Token)(g:List Str):ansL a d (push l u) (Q8b u s e f a d l g):=by
 unfold Q8b push
 by_cases h:1024<=l.length
 ·rw[G0e (by omega),Q0b,if_pos h]
  exact⟨l,rfl⟩
 rw[G0d (by omega),Q0a,if_neg h,appO,if_pos (by simp;omega)]
 exact rfl
def hats(u:Token)(a:Bool):Bool:=a&&(decide (u.kind_=1)||(decide (u.kind_=2)&&match u.text_ with|[]=>false|c::_=>([36,96]:Str).contains c))
def hat(l:List Token)(u:Token)(a:Bool):Except (Int×Int) (List Token):=
 bif hats u a then(match push l ⟨2,u.at_,[94],[]⟩with
  | .error e=>.error e
  | .ok d=>push d u)
 else push l u
theorem K1b(u:Token)(o:Bool)(s:Str)(f g a d:Int)(l:List Token)(k:List Str):ansL a d (hat l u o) (F78 u o s f g a d l k):=by
 have z:∀X:Bool->Option (Bool×Int×Int×List Token),((Q0e (!(decide (u.kind_=1))&&(decide (u.kind_=2)&&!decide (u.text_=[]))) (sidx u.text_ 0)).bind λA=>
  (Q0e (!(decide (u.kind_=1))&&(decide (u.kind_=2)&&!decide (u.text_=[]))) (Q0h [36,96] A)).bind λC=>
  X (o&&(decide (u.kind_=1)||((decide (u.kind_=2)&&!decide (u.text_=[]))&&decide (0<=C)))))=X (hats u o):=by
  intro X
  unfold hats
  cases decide (u.kind_=1)with
  | true=>rfl
  | false=>
    cases decide (u.kind_=2)with
    | false=>rfl
    | true=>
      match u.text_ with
      | []=>rfl
      | c::r=>
        have E:sidx (c::r) 0=some (B c):=Q0u [] c r
        rw[G0d (p:=c::r=[]) (by simp),E]
        simp only[G0q,G1i,Q0e,Q0b,G0a,Q0h,X8z]
        rw[Q5w]
 unfold F78
 refine(z (λh=>bif h then _ else _))▸?_
 unfold hat
 cases hats u o with
 | false=>
   simp only[Q0a]
   have h:=Z9c u s f g a d l k
   cases q:push l u with
   | error e=>
     rw[q]at h
     obtain⟨l',t⟩:=h
     exact⟨l',by rw[t];rfl⟩
   | ok m=>
     rw[q]at h
     have h':Q8b u s f g a d l k=some (true,a,d,m):=h
     rw[h']
     exact rfl
 | true=>
   simp only[Q0b]
   have h:=Z9c ⟨2,u.at_,[94],[]⟩ s f g a d l k
   cases q:push l ⟨2,u.at_,[94],[]⟩with
   | error e=>
     rw[q]at h
     obtain⟨l',t⟩:=h
     exact⟨l',by rw[t];rfl⟩
   | ok m=>
     rw[q]at h
     have h':Q8b ⟨2,u.at_,[94],[]⟩ s f g a d l k=some (true,a,d,m):=h
     rw[h',G0a]
     dsimp only
     rw[G0u,Q0a]
     have x:=Z9c u s f g a d m k
     cases y:push m u with
     | error e=>
       rw[y]at x
       obtain⟨l',t⟩:=x
       exact⟨l',by rw[t];rfl⟩
     | ok F=>
       rw[y]at x
       have H:Q8b u s f g a d m k=some (true,a,d,F):=x
       rw[H]
       exact rfl
def lastWord(l:List Token):Bool:=match l.getLast? with
 | some u=>decide (u.kind_=1)
 | none=>false
theorem V8x(s:Str)(a d e f:Int)(l:List Token)(g:List Str)(m:l.length<=100000):F76 s a d e f l g=some (lastWord l&&decide (d=a)):=by
 unfold F76 lastWord
 by_cases h:l=[]
 ·subst h;rfl
 have o:0<l.length:=G4a.2 h
 have k:lidx l (((l.length-1:Nat):Int))=l.getLast?:=by
  rw[Z4u,List.getLast?_eq_getElem?]
 rw[G0e (by omega),Q0f (by omega) (by omega),show(l.length:Int)-1=((l.length-1:Nat):Int)by omega,k]
 rw[List.getLast?_eq_some_getLast h]
 rfl
def Q3q(c:UInt8):Bool:=(F126 (B c)).getD false
theorem V8n(c:UInt8):F126 (B c)=some (Q3q c):=rfl
def Q1u:Str->Nat
 | []=>0
 | c::r=>bif Q3q c then Q1u r+1 else 0
theorem Z8h(c:UInt8)(r:Str):Q1u (c::r)=bif Q3q c then Q1u r+1 else 0:=rfl
theorem nameN_le:∀t:Str,Q1u t<=t.length
 | []=>G0o _
 | c::r=>by
   have:=nameN_le r
   unfold Q1u
   cases Q3q c<;>simp<;>omega
def name(p:Nat)(t:Str)(l:List Token):Except (Int×Int) (List Token):=
 if Q1u t=0 then .error (p,47)else push l ⟨1,p,t.take (Q1u t),List.replicate (Q1u t) 48⟩
def ansN(a d:Int)(i:Nat)(w:Except (Int×Int) (List Token))(r:Option (Bool×Int×Int×Int×List Token)):Prop:=
 match w with
 | .ok l=>r=some (true,(i:Int),a,d,l)
 | .error (p,c)=>∃j l,r=some (false,j,p,c,l)
theorem K6s{s a t0:Str}(o:s=a++t0)(W:s.length<=1000000)(p g k:Int)(l:List Token)(q:List Str):∀ (t d:Str) (n:Nat),t0=d++t->Q1u t0=d.length+Q1u t->t.length<n->
 ansN g k (a.length+Q1u t0) (name a.length t0 l) (iter (Z6y s (a.length:Int) p g k l q) n ((a.length+d.length:Nat):Int)):=by
 have fin:∀ (t d:Str),t0=d++t->Q1u t0=d.length->ansN g k (a.length+Q1u t0) (name a.length t0 l)
  (bif decide (((a.length+d.length:Nat):Int)=(a.length:Int))then
    (Z2v (a.length:Int) 47 s ((a.length+d.length:Nat):Int) p g k l q).bind λ(y,z,A)=>some (y,((a.length+d.length:Nat):Int),z,A,l)
  else
   (Q0m s (a.length:Int) ((a.length+d.length:Nat):Int)).bind λt31=>
   (Q2r [48] (t31.length:Int)).bind λC=>
   (Q8b (Token.mk 1 (a.length:Int) t31 C) s ((a.length+d.length:Nat):Int) p g k l q).bind λ(E,F,H,I)=>
   some (E,((a.length+d.length:Nat):Int),F,H,I)):=by
  intro t d f hd
  unfold name
  by_cases X:d.length=0
  ·rw[G0e (by omega),Q0b,if_pos (by omega)]
   exact⟨_,_,rfl⟩
  have u:s.length=a.length+(d.length+t.length):=by rw[o,f];simp
  have J:Q0m s (a.length:Int) ((a.length+d.length:Nat):Int)=some d:=by
   have h:=sslice_part a d t
   rw[G0z,<-f,<-o,G0i]at h
   exact h
  have K:Q2r [48] (d.length:Int)=some (List.replicate d.length 48):=by
   unfold Q2r
   rw[if_pos ⟨by omega,by omega,by simp;omega⟩]
   congr 1
   rw[G2o]
   exact Z2e 48 d.length
  have L:t0.take (Q1u t0)=d:=by rw[hd,f];simp
  rw[G0d (by omega),Q0a,if_neg (by omega),J,G0a,K,G0a,L,hd]
  have h:=Z9c ⟨1,(a.length:Int),d,List.replicate d.length 48⟩ s ((a.length+d.length:Nat):Int) p g k l q
  cases x:push l ⟨1,(a.length:Int),d,List.replicate d.length 48⟩with
  | error e=>
    rw[x]at h
    obtain⟨l',M⟩:=h
    exact⟨_,l',by rw[M];rfl⟩
  | ok O=>
    rw[x]at h
    have h':Q8b ⟨1,(a.length:Int),d,List.replicate d.length 48⟩ s ((a.length+d.length:Nat):Int) p g k l q=some (true,g,k,O):=h
    rw[h']
    exact rfl
 intro t
 induction t with
 | nil=>
   intro d n f hd m
   match n,m with
   | n+1,m=>
     have u:s.length=a.length+d.length:=by rw[o,f];simp
     show ansN g k _ _ (Z6y s _ _ _ _ _ _ _ _)
     rw[Z6y,G0d (by omega)]
     exact fin [] d f hd
 | cons c r Q=>
   intro d n f hd m
   match n,m with
   | n+1,m=>
     have u:s.length=a.length+(d.length+(r.length+1)):=by rw[o,f];simp
     have U:sidx s ((a.length+d.length:Nat):Int)=some (B c):=by
      have h:=Q0u (a++d) c r
      rw[G0z,<-f,<-o,G0i]at h
      exact h
     show ansN g k _ _ (Z6y s _ _ _ _ _ _ _ _)
     rw[Z6y,G0e (by omega),U]
     simp only[Q0e,Q0b,G0a,V8n,G1i]
     rw[Z8h]at hd
     cases hb:Q3q c with
     | true=>
       rw[Q0b,Q0f (by omega) (by omega)]
       rw[hb,Q0b]at hd
       have h:=Q (d++[c]) n (by rw[f];simp) (by rw[hd];simp;omega) (by simp at m;omega)
       have V:((a.length+(d++[c]).length:Nat):Int)=((a.length+d.length:Nat):Int)+1:=by simp;omega
       rw[V]at h
       exact h
     | false=>
       rw[Q0a]
       rw[hb,Q0a]at hd
       exact fin (c::r) d f hd
theorem V8v{s pre t:Str}(hs:s=pre++t)(g:s.length<=1000000)(e a d:Int)(l:List Token)(f:List Str):ansN a d (pre.length+Q1u t) (name pre.length t l) (F79 s (pre.length:Int) e a d l f):=by
 have k:s.length=pre.length+t.length:=by rw[hs];simp
 unfold F79
 exact K6s hs g e a d l f t [] BIG rfl (by simp) (by unfold BIG;omega)
theorem F67_tot(s:Str)(e:s.length<=1000000):∃b,F166 s=some b:=by
 obtain⟨n,b,h⟩:∃n b,Z1v s=some (n,b):=by
  unfold Z1v
  rw[if_pos (by omega)]
  cases Lib.atoiAll s<;>exact⟨_,_,rfl⟩
 unfold F166
 rw[h,G0a]
 dsimp only
 cases a:(!b&&decide (0<=n))&&decide (n<64)with
 | false=>exact⟨_,rfl⟩
 | true=>
   simp only[G0k,G0s]at a
   have d:Q9z n=some (Lib.decDigits n.toNat):=by
    unfold Q9z
    rw[if_pos ⟨a.1.2,by omega⟩]
   rw[d]
   exact⟨_,rfl⟩
theorem cut_len(a:Str)(c:UInt8):(Lib.cut a [c]).1.length<=a.length/\(Lib.cut a [c]).2.1.length<=a.length:=by
 rcases firstOf c a with h|⟨x,y,h,rfl⟩
 ·rw[cut_free h];simp
 rw[cut_at y h];simp;omega
theorem K4z{a:Str}(w:Str)(d:Bool)(m:(93:UInt8)∉a)(x:a.length<=1000000):F125 (91::(a++93::w)) d=F125 (91::(a++[93])) d/\(F125 (91::(a++93::w)) d=some 0\/F125 (91::(a++93::w)) d=some ((a.length+2:Nat):Int)):=by
 have f:∀w:Str,F125 (91::(a++93::w)) d=((F166 (Lib.cut a [61]).1).bind λl=>
  (Q0e (((l&&(Lib.cut a [61]).2.2)&&d)&&!decide ((Lib.cut a [61]).2.1=[])) (F166 (Lib.cut a [61]).2.1)).bind λo=>
  (bif (!l||((Lib.cut a [61]).2.2&&(!d||(!decide ((Lib.cut a [61]).2.1=[])&&!o))))then some 0 else some ((a.length+2:Nat):Int))):=by
  intro w
  have p:(93:Int).toNat.toUInt8=93:=by decide
  have q:=indexByte_at 93 w (91::a) (by simp only[G1q,not_or];exact⟨by decide,m⟩)
  have hs:Q0m (91::(a++93::w)) 1 ((91::a).length:Int)=some a:=sslice_part [91] a (93::w)
  unfold F125
  rw[Q0h,G0a,p]
  rw[show(91::(a++93::w):Str)=(91::a)++93::w from rfl,q,G0d (by omega),Q0a]
  rw[show((91::a)++93::w:Str)=91::(a++93::w) from rfl,hs,G0a,Z4k,if_pos (by omega),G0a]
  rw[Q0f (by omega) (by simp;omega)]
  have e:((91::a).length:Int)+1=((a.length+2:Nat):Int):=by simp;omega
  rw[e]
 refine⟨(f w).trans (f []).symm,?_⟩
 rw[f w]
 obtain⟨y,z⟩:=cut_len a 61
 obtain⟨k,s⟩:=F67_tot (Lib.cut a [61]).1 (by omega)
 obtain⟨t,u⟩:=F67_tot (Lib.cut a [61]).2.1 (by omega)
 rw[s,u,G0a]
 generalize (((k&&(Lib.cut a [61]).2.2)&&d)&&!decide ((Lib.cut a [61]).2.1=[]))=g
 cases g
 ·simp only[Q0e,Q0a,G0a]
  generalize (!k||((Lib.cut a [61]).2.2&&(!d||(!decide ((Lib.cut a [61]).2.1=[])&&!default))))=g
  cases g
  ·exact .inr rfl
  exact .inl rfl
 simp only[Q0e,Q0b,G0a]
 generalize (!k||((Lib.cut a [61]).2.2&&(!d||(!decide ((Lib.cut a [61]).2.1=[])&&!t))))=g
 cases g
 ·exact .inr rfl
 exact .inl rfl
theorem F51_free{r:Str}(a:Bool)(h:(93:UInt8)∉r):F125 (91::r) a=some 0:=by
 have d:(93:Int).toNat.toUInt8=93:=by decide
 unfold F125
 rw[Q0h,G0a,d,Q1z 93 (91::r) (by simp only[G1q,not_or];exact⟨by decide,h⟩)]
 rfl
def brk(t:Str)(a:Bool):Nat:=((F125 t a).getD 0).toNat
theorem K0y(r:Str)(d:Bool)(f:r.length<=1000000):F125 (91::r) d=some (brk (91::r) d:Int)/\brk (91::r) d<=(91::r).length:=by
 unfold brk
 rcases firstOf 93 r with h|⟨a,w,h,rfl⟩
 ·rw[F51_free d h]
  exact⟨rfl,by simp⟩
 rcases(K4z w d h (by simp at f;omega)).2 with e|e
 ·rw[e];exact⟨rfl,by simp⟩
 rw[e]
 refine⟨rfl,?_⟩
 simp
 omega
def symB:List Str->Str->Except Nat Str
 | [],_=>.ok []
 | w::a,t=>bif w.isPrefixOf t then(bif ([91]:Str).isPrefixOf (t.drop w.length)then
    (if brk (t.drop w.length) (!decide (w=[124]))=0 then .error w.length else .ok (t.take (w.length+brk (t.drop w.length) (!decide (w=[124])))))
    else .ok w)else symB a t
def symA:List Str->Str->Except Nat Str
 | [],[]=>.ok []
 | [],c::r=>bif START.contains c then .ok [c]else symB [[62,62],[62],[60],[124]] (c::r)
 | w::a,t=>bif w.isPrefixOf t then .ok w else symA a t
def sym(t:Str):Except Nat Str:=symA [[38,38],[124,124],[36,35]] t
theorem J6j:∀ (a:List Str) (t w:Str),symB a t=.ok w->w <+: t
 | [],t,w,h=>by
   simp only[symB,G5w]at h
   subst h
   exact List.nil_prefix
 | v::a,t,w,h=>by
   unfold symB at h
   cases d:v.isPrefixOf t with
   | false=>rw[d,Q0a]at h;exact J6j a t w h
   | true=>
     rw[d,Q0b]at h
     cases hb:([91]:Str).isPrefixOf (t.drop v.length)with
     | false=>
       rw[hb,Q0a]at h
       injection h with h
       subst h
       exact G2c.1 d
     | true=>
       rw[hb,Q0b]at h
       split at h
       ·cases h
       injection h with h
       subst h
       exact List.take_prefix _ _
theorem J6m:∀ (a:List Str) (t w:Str),symA a t=.ok w->w <+: t
 | [],[],w,h=>by
   simp only[symA,G5w]at h
   subst h
   exact List.nil_prefix
 | [],c::r,w,h=>by
   unfold symA at h
   cases e:START.contains c with
   | true=>
     rw[e,Q0b]at h
     injection h with h
     subst h
     exact⟨r,rfl⟩
   | false=>
     rw[e,Q0a]at h
     exact J6j _ _ _ h
 | v::a,t,w,h=>by
   unfold symA at h
   cases d:v.isPrefixOf t with
   | false=>rw[d,Q0a]at h;exact J6m a t w h
   | true=>
     rw[d,Q0b]at h
     injection h with h
     subst h
     exact G2c.1 d
theorem sym_pre{t w:Str}(h:sym t=.ok w):w <+: t:=J6m _ _ _ h
def X4r(a d:Int)(p:Nat)(w:Except Nat Str)(r:Option (Str×Bool×Int×Int)):Prop:=
 match w with
 | .ok w=>r=some (w,true,a,d)
 | .error e=>∃v,r=some (v,false,((p+e:Nat):Int),47)
def G38b(t:Str)(d e f:Int)(s:Str)(k:Int)(l:List Token)(m:List Str):Str->Int->Option (Str×Bool×Int×Int)->Option (Str×Bool×Int×Int):=λa _ n=>
 (F42 t a).bind λo=>(bif !o then n else
   (Q0m t (a.length:Int) (t.length:Int)).bind λt51=>
   (F42 t51 [91]).bind λp=>
   (bif !p then some (a,true,d,e)
   else
    (F125 t51 (!decide (a=[124]))).bind λg=>
    (bif decide (g=0)then
      (Z2v (IntKind.wrap .i64 (f+(a.length:Int))) 47 s f k d e l m).bind λ(q,u,x)=>some ([],q,u,x)
    else
     (Q0m t 0 (IntKind.wrap .i64 ((a.length:Int)+g))).bind λy=>some (y,true,d,e))))
def G38a(t:Str)(d e:Int):Str->Int->Option (Str×Bool×Int×Int)->Option (Str×Bool×Int×Int):=λa _ n=>
 (F42 t a).bind λf=>bif f then some (a,true,d,e)else n
theorem X2l{t s:Str}(k:t.length<=1000000)(d e l:Int)(o:List Token)(q:List Str)(p:Nat)(z:p<=1000000):∀ (f:List Str) (i:Int),X4r d e p (symB f t) (Q4d (G38b t d e (p:Int) s l o q) (some ([],true,d,e)) f i)
 | [],i=>rfl
 | w::f,i=>by
   unfold symB
   rw[Q4d,G38b,Q6f _ _ k,G0a]
   cases A:w.isPrefixOf t with
   | false=>
     rw[Q0a,G0q,Q0b]
     exact X2l k d e l o q p z f (i+1)
   | true=>
     obtain⟨u,a⟩:=G2c.1 A
     have g:t.length=w.length+u.length:=by rw[<-a];simp
     have hs:Q0m t (w.length:Int) (t.length:Int)=some u:=by
      rw[<-a]
      exact Q9c w u
     have hd:t.drop w.length=u:=by rw[<-a];simp
     rw[Q0b,G0u,Q0a,hs,G0a,Q6f _ _ (by omega),G0a,hd]
     cases hb:([91]:Str).isPrefixOf u with
     | false=>
       rw[Q0a,G0q,Q0b]
       exact rfl
     | true=>
       rw[Q0b,G0u,Q0a]
       match u,hb,g,a with
       | c::r,hb,g,a=>
         have C:c=91:=by
          rw[Q0p,G0k,G0s]at hb
          exact hb.1
         subst C
         obtain⟨x,E⟩:=K0y r (!decide (w=[124])) (by simp at g;omega)
         rw[x,G0a]
         simp only[G0h]at g E
         clear x
         generalize brk (91::r) (!decide (w=[124]))=m at *
         by_cases y:m=0
         ·rw[if_pos y,G0e (by omega),Q0b,Q0f (by omega) (by omega)]
          exact⟨[],by simp[Z2v]⟩
         rw[if_neg y,G0d (by omega),Q0a,Q0f (by omega) (by omega)]
         have F:Q0m t 0 ((w.length:Int)+(m:Int))=some (t.take (w.length+m)):=by
          unfold Q0m
          rw[if_pos ⟨by omega,by omega,by omega⟩]
          have:((w.length:Int)+(m:Int)).toNat-(0:Int).toNat=w.length+m:=by omega
          rw[this]
          rfl
         rw[F]
         exact rfl
theorem X2m{t:Str}(f:t.length<=1000000)(a d:Int)(p:Nat)(fin:Option (Str×Bool×Int×Int))(g:X4r a d p (symA [] t) fin):∀ (e:List Str) (i:Int),X4r a d p (symA e t) (Q4d (G38a t a d) fin e i)
 | [],_=>g
 | w::e,i=>by
   rw[symA,Q4d,G38a,Q6f _ _ f,G0a]
   cases k:w.isPrefixOf t with
   | false=>exact X2m f a d p fin g e (i+1)
   | true=>exact rfl
theorem V8w{s pre t:Str}(hs:s=pre++t)(A:s.length<=1000000)(e a d:Int)(f:List Token)(g:List Str):X4r a d pre.length (sym t) (F77 s (pre.length:Int) e a d f g):=by
 have C:s.length=pre.length+t.length:=by rw[hs];simp
 have k:t.length<=1000000:=by omega
 unfold F77
 rw[Q9b hs,G0a]
 have l:iter (J3n t a d (pre.length:Int) s e f g) BIG 0=Q4d (G38b t a d (pre.length:Int) s e f g) (some ([],true,a,d)) [[62,62],[62],[60],[124]] 0:=
  Q9l (body:=J3n t a d (pre.length:Int) s e f g) _ _ _ (λm i=>rfl) (by decide)
 have o:=Q9l (body:=X5j t a d (pre.length:Int) s e f g) [[38,38],[124,124],[36,35]] (G38a t a d) (bif decide (t=[])then some ([],true,a,d)else
  (sidx t 0).bind λq=>(Q0h [59,38,40,41,123,125,61,94,96,36,33,64] q).bind λu=>
  (bif decide (0<=u)then(Q0m t 0 1).bind λx=>some (x,true,a,d)
  else iter (J3n t a d (pre.length:Int) s e f g) BIG 0)) (λm i=>rfl) (by decide)
 rw[o,l]
 refine X2m k a d pre.length _ ?_ _ 0
 match t,k with
 | [],k=>exact rfl
 | c::r,k=>
   have y:sidx (c::r) 0=some (B c):=Q0u [] c r
   have z:Q0m (c::r) 0 1=some [c]:=Z2c [] c r
   rw[symA,G0d (p:=c::r=[]) (by simp),Q0a,y,G0a,Q0h,G0a,X8z,Q5w,z]
   show X4r a d pre.length _ (bif START.contains c then _ else _)
   cases START.contains c with
   | true=>exact rfl
   | false=>exact X2l k a d e f g pre.length (by omega) _ 0
def tok(p:Nat)(t:Str)(l:List Token)(d:Bool):Except (Int×Int) (List Token×Nat):=
 match sym t with
 | .error e=>.error (((p+e:Nat):Int),47)
 | .ok []=>(match wd t.length t with
   | .error e=>.error (((p+e:Nat):Int),48)
   | .ok (x,q,m)=>match hat l ⟨1,p,x,q⟩ d with
     | .error e=>.error e
     | .ok a=>.ok (a,m))
 | .ok (c::w)=>match hat l ⟨2,p,c::w,[]⟩ d with
   | .error e=>.error e
   | .ok a=>bif decide (c::w=[36])||decide (c::w=[36,35])then(match name (p+(c::w).length) (t.drop (c::w).length) a with
      | .error e=>.error e
      | .ok f=>.ok (f,(c::w).length+Q1u (t.drop (c::w).length)))
     else .ok (a,(c::w).length)
def ansT(a d:Int)(p:Nat)(w:Except (Int×Int) (List Token×Nat))(r:Option (Bool×Int×Int×Int×List Token)):Prop:=
 match w with
 | .ok (l,m)=>r=some (true,((p+m:Nat):Int),a,d,l)
 | .error (q,c)=>∃j l,r=some (false,j,q,c,l)
theorem V9a{s pre t:Str}(hs:s=pre++t)(I:s.length<=1000000)(f a d:Int)(l:List Token)(g:List Str)(O:l.length<=100000):
 ansT a d pre.length (tok pre.length t l (lastWord l&&decide (f=(pre.length:Int)))) (F44 s (pre.length:Int) f a d l g):=by
 have ae:s.length=pre.length+t.length:=by rw[hs];simp
 unfold F44
 rw[V8x _ _ _ _ _ _ _ O,G0a]
 generalize (lastWord l&&decide (f=(pre.length:Int)))=tc
 have F:=V8w hs I f a d l g
 unfold tok
 cases o:sym t with
 | error e=>
   rw[o]at F
   obtain⟨v,Q⟩:=F
   rw[Q,G0a]
   dsimp only
   rw[G0q,Q0b]
   exact⟨_,_,rfl⟩
 | ok w=>
   rw[o]at F
   have U:F77 s (pre.length:Int) f a d l g=some (w,true,a,d):=F
   rw[U,G0a]
   dsimp only
   rw[G0u,Q0a]
   match w,o with
   | [],o=>
     rw[G0e (p:=([]:Str)=[]) rfl,G0u,Q0a]
     have H:=K1c hs I f a d l g
     dsimp only
     cases L:wd t.length t with
     | error e=>
       rw[L]at H
       obtain⟨i,V⟩:=H
       rw[V,G0a]
       exact⟨_,_,rfl⟩
     | ok y=>
       rcases y with⟨x,q,m⟩
       rw[L]at H
       have W:J1h s (pre.length:Int) f a d l g=some ([]++x,[]++q,true,((pre.length+m:Nat):Int),a,d):=H
       rw[W,G0a]
       dsimp only
       rw[Q0b,G1y,G1y]
       have k:=K1b ⟨1,(pre.length:Int),x,q⟩ tc s ((pre.length+m:Nat):Int) f a d l g
       cases A:hat l ⟨1,(pre.length:Int),x,q⟩ tc with
       | error e=>
         rw[A]at k
         obtain⟨l',C⟩:=k
         rw[C]
         exact⟨_,_,rfl⟩
       | ok z=>
         rw[A]at k
         have J:F78 ⟨1,(pre.length:Int),x,q⟩ tc s ((pre.length+m:Nat):Int) f a d l g=some (true,a,d,z):=k
         rw[J]
         exact rfl
   | c::w,o=>
     obtain⟨u,K⟩:=sym_pre o
     have X:t.drop (c::w).length=u:=by rw[<-K];simp
     have af:t.length=(c::w).length+u.length:=by rw[<-K,G0i]
     rw[G0d (p:=c::w=[]) (by simp),G0q,Q0b,Q0f (by omega) (by omega)]
     have Y:(pre.length:Int)+((c::w).length:Int)=((pre.length+(c::w).length:Nat):Int):=by omega
     rw[Y]
     have k:=K1b ⟨2,(pre.length:Int),c::w,[]⟩ tc s ((pre.length+(c::w).length:Nat):Int) f a d l g
     dsimp only
     cases A:hat l ⟨2,(pre.length:Int),c::w,[]⟩ tc with
     | error e=>
       rw[A]at k
       obtain⟨l',C⟩:=k
       rw[C]
       exact⟨_,_,rfl⟩
     | ok z=>
       rw[A]at k
       have J:F78 ⟨2,(pre.length:Int),c::w,[]⟩ tc s ((pre.length+(c::w).length:Nat):Int) f a d l g=some (true,a,d,z):=k
       rw[J,G0a]
       dsimp only
       rw[G0u,Q0a]
       cases hd:decide (c::w=[36])||decide (c::w=[36,35])with
       | false=>exact rfl
       | true=>
         rw[Q0b,Q0b,X]
         have E:=V8v (s:=s) (pre:=pre++(c::w)) (t:=u) (by rw[hs,<-K];simp) I f a d z g
         have e2:(pre++(c::w)).length=pre.length+(c::w).length:=G0i
         rw[e2]at E
         cases M:name (pre.length+(c::w).length) u z with
         | error e=>
           rw[M]at E
           obtain⟨j,l',C⟩:=E
           rw[C]
           exact⟨_,_,rfl⟩
         | ok l2=>
           rw[M]at E
           have ad:F79 s ((pre.length+(c::w).length:Nat):Int) f a d z g=some (true,((pre.length+(c::w).length+Q1u u:Nat):Int),a,d,l2):=E
           rw[ad]
           show _=_
           rw[G0a]
           simp only[G3b]
def here(p:Nat)(t:Str)(l:List Token)(a:List Str):Except (Int×Int) (List Token×List Str×Nat):=
 match wd (t.drop (2+blankN (t.drop 2))).length (t.drop (2+blankN (t.drop 2)))with
 | .error e=>.error (((p+(2+blankN (t.drop 2))+e:Nat):Int),48)
 | .ok (x,q,m)=>bif decide (m=0)then .error (((p+(2+blankN (t.drop 2)):Nat):Int),47)else match push l ⟨4,p,x,q⟩with
   | .error e=>.error e
   | .ok d=>.ok (d,a++[x],2+blankN (t.drop 2)+m)
def ansH(d e:Int)(p:Nat)(w:Except (Int×Int) (List Token×List Str×Nat))(r:Option (Bool×Int×Int×Int×List Token×List Str)):Prop:=
 match w with
 | .ok (l,a,m)=>r=some (true,((p+m:Nat):Int),d,e,l,a)
 | .error (q,c)=>∃b j l a,r=some (b,j,q,c,l,a)
theorem V9b{s pre t:Str}(hs:s=pre++t)(U:2<=t.length)(u:s.length<=1000000)(g a d:Int)(l:List Token)(f:List Str)(V:f.length<=1000000):
 ansH a d pre.length (here pre.length t l f) (J5u s (pre.length:Int) g a d l f):=by
 have W:s.length=pre.length+t.length:=by rw[hs];simp
 have hb:=Q5b (t.drop 2).length (t.drop 2) (G0o _)
 have X:(t.drop 2).length=t.length-2:=by simp
 have F:s=(pre++t.take 2)++t.drop 2:=by rw[hs,G0z,G1v]
 have H:(pre++t.take 2).length=pre.length+2:=by simp;omega
 have z:=K1e F u g a d l f
 rw[H]at z
 unfold J5u here
 rw[Q0f (by omega) (by omega),show(pre.length:Int)+2=((pre.length+2:Nat):Int)by omega,z,G0a]
 generalize blankN (t.drop 2)=b at *
 have I:s=(pre++t.take (2+b))++t.drop (2+b):=by rw[hs,G0z,G1v]
 have J:(pre++t.take (2+b)).length=pre.length+(2+b):=by simp;omega
 have k:=K1c I u g a d l f
 rw[J]at k
 rw[show pre.length+2+b=pre.length+(2+b)by omega]
 cases A:wd (t.drop (2+b)).length (t.drop (2+b))with
 | error e=>
   rw[A]at k
   obtain⟨i,K⟩:=k
   rw[K,G0a]
   exact⟨_,_,_,_,rfl⟩
 | ok y=>
   rcases y with⟨x,q,m⟩
   rw[A]at k
   have L:J1h s ((pre.length+(2+b):Nat):Int) g a d l f=some ([]++x,[]++q,true,((pre.length+(2+b)+m:Nat):Int),a,d):=k
   rw[L,G0a]
   dsimp only
   rw[G0u,Q0a,G1y,G1y]
   by_cases C:m=0
   ·subst C
    rw[G0e (p:=(((pre.length+(2+b)+0:Nat):Int)=((pre.length+(2+b):Nat):Int))) rfl,Q0b,G0e (p:=0=0) rfl,Q0b]
    exact⟨_,_,_,_,rfl⟩
   rw[G0d (p:=(((pre.length+(2+b)+m:Nat):Int)=((pre.length+(2+b):Nat):Int))) (by omega),Q0a,G0d C,Q0a,appO,if_pos (by simp;omega),G0a]
   have o:=Z9c ⟨4,(pre.length:Int),x,q⟩ s ((pre.length+(2+b)+m:Nat):Int) g a d l (f++[x])
   cases E:push l ⟨4,(pre.length:Int),x,q⟩with
   | error e=>
     rw[E]at o
     obtain⟨l',M⟩:=o
     rw[M]
     exact⟨_,_,_,_,rfl⟩
   | ok O=>
     rw[E]at o
     have Q:Q8b ⟨4,(pre.length:Int),x,q⟩ s ((pre.length+(2+b)+m:Nat):Int) g a d l (f++[x])=some (true,a,d,O):=o
     rw[Q]
     show _=_
     rw[G0a]
     simp only[G3b]
def doc:Nat->Str->Str->Option Nat
 | 0,_,_=>none
 | k+1,e,u=>if u=[]then none else
   if (Lib.cut u [10]).1=e then some ((Lib.cut u [10]).1.length+bif (Lib.cut u [10]).2.2 then 1 else 0)
   else(doc k e (Lib.cut u [10]).2.1).map λn=>(Lib.cut u [10]).1.length+(bif (Lib.cut u [10]).2.2 then 1 else 0)+n
theorem J5f(k:Nat)(e:Str):doc k e []=none:=by cases k<;>rfl
theorem J7l:∀ (k:Nat) (e u:Str) (n:Nat),doc k e u=some n->n<=u.length
 | 0,e,u,n,h=>by cases h
 | k+1,e,u,n,h=>by
   unfold doc at h
   by_cases f:u=[]
   ·rw[if_pos f]at h;cases h
   rw[if_neg f]at h
   rcases firstOf 10 u with d|⟨a,b,d,rfl⟩
   ·rw[cut_free d]at h
    dsimp only at h
    rw[J5f]at h
    split at h
    ·simp at h;omega
    cases h
   rw[cut_at b d]at h
   dsimp only at h
   split at h
   ·simp at h;simp;omega
   cases hd:doc k e b with
   | none=>rw[hd]at h;cases h
   | some m=>
     rw[hd]at h
     have:=J7l k e b m hd
     simp at h
     simp
     omega
def ansD(p:Nat)(w:Option Nat)(r:Option (Str×Int×Int)):Prop:=
 match w with
 | some n=>∃x,r=some (x,((p+n:Nat):Int),0)
 | none=>r=some ([],0,3)
theorem K6x{s e pre:Str}(y:s.length<=1000000):∀ (k:Nat) (t d:Str) (n:Nat),t.length<=k->s=pre++d++t->t.length<n->
 ansD (pre++d).length (doc k e t) (iter (Q2s s e (pre.length:Int)) n ((pre++d).length:Int)):=by
 have gone:∀ (n:Nat) (p:Int),0<n->(s.length:Int)<=p->iter (Q2s s e (pre.length:Int)) n p=some ([],0,3):=by
  intro n p g K
  match n,g with
  | n+1,_=>
    show Q2s s _ _ _ _=_
    rw[Q2s,G0d (by omega),Q0a]
 intro k
 induction k with
 | zero=>
   intro t d n q hs g
   have q:t=[]:=G3c.1 (by omega)
   subst q
   exact gone n _ (by omega) (by rw[hs];simp)
 | succ k C=>
   intro t d n q hs g
   by_cases u:t=[]
   ·subst u
    rw[J5f]
    exact gone n _ (by omega) (by rw[hs];simp)
   have L:0<t.length:=G4a.2 u
   have M:s.length=(pre++d).length+t.length:=by rw[hs];simp;omega
   have z:decide (((pre++d).length:Int)<(s.length:Int))=true:=G0e (by omega)
   have A:Q0m s (pre.length:Int) ((pre++d).length:Int)=some d:=by
    rw[hs]
    exact sslice_part pre d t
   rw[doc,if_neg u]
   match n,g with
   | n+1,g=>
     show ansD _ _ (Q2s s _ _ _ _)
     rcases firstOf 10 t with l|⟨a,b,l,rfl⟩
     ·have E:Q0m s ((pre++d).length:Int) (s.length:Int)=some t:=by
       rw[hs]
       exact Q9c (pre++d) t
      rw[Q2s,z,Q0b,J1u s e _ _ _ y t (pre++d) [] BIG l (by rw[hs,G1s]) (.inl rfl) (by unfold BIG;omega)]
      have o:((pre++d++t).length:Int)=(s.length:Int):=by rw[hs]
      rw[o,E,G0a,A,cut_free l]
      dsimp only
      by_cases f:t=e
      ·rw[G0e f,Q0b,if_pos f,Q0a]
       refine⟨d,?_⟩
       have:imin ((s.length:Int)+1) (s.length:Int)=(((pre++d).length+(t.length+0):Nat):Int):=by unfold imin;split<;>omega
       rw[G0a,this]
      rw[G0d f,Q0a,if_neg f,J5f]
      exact gone n _ (by omega) (by omega)
     have F:s=pre++(d++(a++[10]))++b:=by rw[hs];simp
     have O:(a++10::b).length=a.length+b.length+1:=by simp;omega
     rw[Q2s,z,Q0b,J1u s e _ _ _ y a (pre++d) (10::b) BIG l (by rw[hs];simp) (.inr ⟨b,rfl⟩) (by unfold BIG;omega)]
     have H:Q0m s ((pre++d).length:Int) ((pre++d++a).length:Int)=some a:=by
      have:s=(pre++d)++a++10::b:=by rw[hs];simp
      rw[this]
      exact sslice_part (pre++d) a (10::b)
     have o:((pre++d++a).length:Int)=((pre++d).length:Int)+(a.length:Int):=by simp;omega
     rw[H,G0a,A,cut_at b l]
     dsimp only
     by_cases f:a=e
     ·rw[G0e f,Q0b,if_pos f,Q0b,o]
      refine⟨d,?_⟩
      have:imin (((pre++d).length:Int)+(a.length:Int)+1) (s.length:Int)=(((pre++d).length+(a.length+1):Nat):Int):=by unfold imin;split<;>omega
      rw[G0a,this]
     rw[G0d f,Q0a,if_neg f,Q0b,o]
     have h:=C b (d++(a++[10])) n (by omega) F (by omega)
     have I:(pre++(d++(a++[10]))).length=(pre++d).length+(a.length+1):=by simp;omega
     rw[I,show(((pre++d).length+(a.length+1):Nat):Int)=((pre++d).length:Int)+(a.length:Int)+1 by omega]at h
     cases hd:doc k e b with
     | none=>rw[hd]at h;exact h
     | some m=>
       rw[hd]at h
       obtain⟨x,J⟩:=h
       refine⟨x,?_⟩
       rw[J]
       simp only[G3b]
theorem V8g{s pre t:Str}(hs:s=pre++t)(a:s.length<=1000000)(e:Str):ansD pre.length (doc t.length e t) (F72 s (pre.length:Int) e):=by
 have k:s.length=pre.length+t.length:=by rw[hs];simp
 obtain⟨r,d,f⟩:=heres (s:=s) (e:=e) (at_:=(pre.length:Int)) a
 rw[d,<-f]
 unfold F54
 have g:(decide ((pre.length:Int)<0)||decide ((s.length:Int)<(pre.length:Int)))=false:=by
  rw[G0d (by omega),G0d (by omega)]
  rfl
 rw[g,Q0a]
 have h:=K6x (s:=s) (e:=e) (pre:=pre) a t.length t [] BIG (G0o _) (by rw[hs,G1s]) (by unfold BIG;omega)
 rw[G1s]at h
 exact h
def docs:List Str->Str->Except (Nat×Int) Nat
 | [],_=>.ok 0
 | w::a,u=>match doc u.length w u with
   | none=>.error (0,3)
   | some n=>match docs a (u.drop n)with
     | .error (o,c)=>.error (n+o,c)
     | .ok m=>.ok (n+m)
theorem J5e:∀ (a:List Str) (u:Str) (m:Nat),docs a u=.ok m->m<=u.length
 | [],u,m,h=>by simp only[docs,G5w]at h;omega
 | w::a,u,m,h=>by
   unfold docs at h
   cases hd:doc u.length w u with
   | none=>rw[hd]at h;cases h
   | some n=>
     rw[hd]at h
     have g:=J7l _ _ _ _ hd
     dsimp only at h
     cases d:docs a (u.drop n)with
     | error e=>rcases e with⟨o,c⟩;rw[d]at h;cases h
     | ok k=>
       rw[d]at h
       have f:=J5e a (u.drop n) k d
       simp at f
       injection h with h
       omega
def Y5r(a d:Int)(l:List Token)(p:Nat)(w:Except (Nat×Int) Nat)(r:Option (Bool×Bool×Int×Int×Int×List Token)):Prop:=
 match w with
 | .ok m=>r=some (true,true,((p+m:Nat):Int),a,d,l)
 | .error (o,c)=>∃b j,r=some (false,b,j,((p+o:Nat):Int),c,l)
def G22(s:Str)(f g k:Int)(d:List Token)(l:List Str):Str->Int->(Int->Option (Bool×Bool×Int×Int×Int×List Token))->Int->Option (Bool×Bool×Int×Int×Int×List Token):=λm _ n a=>
 (F72 s a m).bind λ(u,o,e)=>
   (bif !decide (e=0)then
     (Z2v a e s a f g k d l).bind λ(p,q,t)=>some (false,p,a,q,t,d)
   else n o)
theorem X9o{s:Str}(l:s.length<=1000000)(q d f:Int)(g:List Token)(t:List Str):∀ (a:List Str) (i:Int) (pre u:Str),s=pre++u->
 Y5r d f g pre.length (docs a u) (Q4z (G22 s q d f g t) (λz=>some (true,true,z,d,f,g)) a i (pre.length:Int))
 | [],i,pre,u,hs=>rfl
 | w::a,i,pre,u,hs=>by
   unfold docs
   rw[Q4z,G22]
   have k:=V8g hs l w
   cases hd:doc u.length w u with
   | none=>
     rw[hd]at k
     have A:F72 s (pre.length:Int) w=some ([],0,3):=k
     rw[A]
     exact⟨_,_,rfl⟩
   | some n=>
     rw[hd]at k
     obtain⟨x,C⟩:=k
     have H:=J7l _ _ _ _ hd
     rw[C,G0a]
     dsimp only
     rw[G0e (p:=(0:Int)=0) rfl,G0u,Q0a]
     have h:=X9o l q d f g t a (i+1) (pre++u.take n) (u.drop n) (by rw[hs,G0z,G1v])
     have E:(pre++u.take n).length=pre.length+n:=by simp;omega
     rw[E]at h
     cases y:docs a (u.drop n)with
     | error e=>
       rcases e with⟨o,c⟩
       rw[y]at h
       obtain⟨b,j,F⟩:=h
       refine⟨b,j,?_⟩
       rw[F]
       simp only[G3b]
     | ok m=>
       rw[y]at h
       show _=_
       refine G7i h ?_
       simp only[G3b]
def nls(p:Nat)(t:Str)(l:List Token)(a:List Str):Except (Int×Int) (List Token×Nat):=
 match push l ⟨3,p,[10],[]⟩with
 | .error e=>.error e
 | .ok d=>match docs a (t.drop 1)with
   | .error (o,c)=>.error (((p+1+o:Nat):Int),c)
   | .ok m=>.ok (d,1+m)
def ansE(a d:Int)(p:Nat)(w:Except (Int×Int) (List Token×Nat))(r:Option (Bool×Bool×Int×Int×Int×List Token)):Prop:=
 match w with
 | .ok (l,m)=>r=some (true,true,((p+m:Nat):Int),a,d,l)
 | .error (q,c)=>∃b j l,r=some (false,b,j,q,c,l)
theorem V9c{s pre t:Str}(hs:s=pre++t)(I:1<=t.length)(y:s.length<=1000000)(g d f:Int)(l:List Token)(a:List Str)(J:a.length<=1000000):
 ansE d f pre.length (nls pre.length t l a) (J5v s (pre.length:Int) g d f l a):=by
 have K:s.length=pre.length+t.length:=by rw[hs];simp
 unfold J5v nls
 have p:=Z9c ⟨3,(pre.length:Int),[10],[]⟩ s (pre.length:Int) g d f l a
 cases q:push l ⟨3,(pre.length:Int),[10],[]⟩with
 | error e=>
   rw[q]at p
   obtain⟨l',z⟩:=p
   rw[z]
   exact⟨_,_,_,rfl⟩
 | ok k=>
   rw[q]at p
   have A:Q8b ⟨3,(pre.length:Int),[10],[]⟩ s (pre.length:Int) g d f l a=some (true,d,f,k):=p
   rw[A,G0a]
   dsimp only
   rw[G0u,Q0a,Q0f (by omega) (by omega)]
   have C:=J4v (body:=J1i a s g d f k) a (G22 s g d f k a) (λE=>some (true,true,E,d,f,k)) (λL i x=>rfl) (by omega) ((pre.length:Int)+1)
   rw[C]
   have h:=X9o y g d f k a a 0 (pre++t.take 1) (t.drop 1) (by rw[hs,G0z,G1v])
   have F:(pre++t.take 1).length=pre.length+1:=by simp;omega
   rw[F,show((pre.length+1:Nat):Int)=(pre.length:Int)+1 by omega]at h
   cases u:docs a (t.drop 1)with
   | error e=>
     rcases e with⟨o,c⟩
     rw[u]at h
     obtain⟨b,j,H⟩:=h
     exact⟨b,j,_,H⟩
   | ok m=>
     rw[u]at h
     show _=_
     refine G7i h ?_
     simp only[G3b]
theorem push_ok{l l':List Token}{u:Token}(h:push l u=.ok l'):l'=l++[u]/\l'.length<=1024:=by
 unfold push at h
 split at h
 ·cases h
 injection h with h
 subst h
 exact⟨rfl,by simp;omega⟩
theorem Q7f{l:List Token}{u:Token}{q c:Int}(h:push l u=.error (q,c)):c=4:=by
 unfold push at h
 split at h
 ·injection h with h
  injection h with d a
  exact a.symm
 cases h
theorem X9r{l l':List Token}{u:Token}{tc:Bool}(h:hat l u tc=.ok l'):l'.length<=1024:=by
 unfold hat at h
 cases a:hats u tc with
 | false=>rw[a,Q0a]at h;exact(push_ok h).2
 | true=>
   rw[a,Q0b]at h
   cases d:push l ⟨2,u.at_,[94],[]⟩with
   | error e=>rw[d]at h;cases h
   | ok f=>rw[d]at h;exact(push_ok h).2
theorem X3g{l:List Token}{u:Token}{tc:Bool}{q c:Int}(h:hat l u tc=.error (q,c)):c=4:=by
 unfold hat at h
 cases d:hats u tc with
 | false=>rw[d,Q0a]at h;exact Q7f h
 | true=>
   rw[d,Q0b]at h
   cases a:push l ⟨2,u.at_,[94],[]⟩with
   | error e=>rw[a]at h;injection h with h;subst h;exact Q7f a
   | ok f=>rw[a]at h;exact Q7f h
theorem K2t{p:Nat}{t:Str}{l l':List Token}(h:name p t l=.ok l'):l'.length<=1024:=by
 unfold name at h
 split at h
 ·cases h
 exact(push_ok h).2
theorem X7i{p:Nat}{t:Str}{l:List Token}{q c:Int}(h:name p t l=.error (q,c)):c≠0:=by
 unfold name at h
 split at h
 ·injection h with h
  injection h with d a
  subst a
  decide
 rw[Q7f h]
 decide
theorem J0t:∀ (a:List Str) (u:Str) (o:Nat) (c:Int),docs a u=.error (o,c)->c=3
 | [],u,o,c,h=>by cases h
 | w::a,u,o,c,h=>by
   unfold docs at h
   cases hd:doc u.length w u with
   | none=>
     rw[hd]at h
     injection h with h
     injection h with g d
     exact d.symm
   | some n=>
     rw[hd]at h
     dsimp only at h
     cases f:docs a (u.drop n)with
     | error e=>
       rcases e with⟨o',l⟩
       rw[f]at h
       have:=J0t a (u.drop n) o' l f
       injection h with h
       injection h with g d
       rw[<-d]
       exact this
     | ok k=>rw[f]at h;cases h
theorem X9l{p:Nat}{t:Str}{l l':List Token}{d:List Str}{m:Nat}(q:1<=t.length)(h:nls p t l d=.ok (l',m)):l'.length<=1024/\1<=m/\m<=t.length:=by
 unfold nls at h
 cases a:push l ⟨3,p,[10],[]⟩with
 | error e=>rw[a]at h;cases h
 | ok s=>
   rw[a]at h
   dsimp only at h
   cases hd:docs d (t.drop 1)with
   | error e=>rcases e with⟨o,c⟩;rw[hd]at h;cases h
   | ok k=>
     rw[hd]at h
     injection h with h
     injection h with f u
     subst f
     have g:=J5e _ _ _ hd
     simp at g
     exact⟨(push_ok a).2,by omega,by omega⟩
theorem X2g{p:Nat}{t:Str}{l:List Token}{f:List Str}{q c:Int}(h:nls p t l f=.error (q,c)):c≠0:=by
 unfold nls at h
 cases a:push l ⟨3,p,[10],[]⟩with
 | error e=>
   rcases e with⟨s,g⟩
   rw[a]at h
   injection h with h
   injection h with m d
   rw[<-d,Q7f a]
   decide
 | ok u=>
   rw[a]at h
   dsimp only at h
   cases hd:docs f (t.drop 1)with
   | error e=>
     rcases e with⟨o,g⟩
     rw[hd]at h
     injection h with h
     injection h with m d
     rw[<-d,J0t _ _ _ _ hd]
     decide
   | ok k=>rw[hd]at h;cases h
theorem wd_len:∀ (k:Nat) (t x q:Str) (m:Nat),wd k t=.ok (x,q,m)->m<=t.length/\x.length=q.length/\x.length<=m
 | 0,t,x,q,m,h=>by
   unfold wd at h
   injection h with h
   injection h with d a
   injection a with a f
   subst d;subst a;subst f
   simp
 | k+1,[],x,q,m,h=>by
   unfold wd at h
   injection h with h
   injection h with d a
   injection a with a f
   subst d;subst a;subst f
   simp
 | k+1,c::r,x,q,m,h=>by
   rw[wd]at h
   cases A:ord (c::r)with
   | true=>
     rw[A,Q0b]at h
     cases l:wd k r with
     | error e=>rw[l]at h;cases h
     | ok y=>
       rcases y with⟨o,p,s⟩
       rw[l]at h
       have:=wd_len k r o p s l
       injection h with h
       injection h with d a
       injection a with a f
       subst d;subst a;subst f
       simp
       omega
   | false=>
     rw[A,Q0a]at h
     split at h
     ·cases u:qd r with
      | none=>rw[u]at h;cases h
      | some y=>
        rcases y with⟨y,n⟩
        rw[u]at h
        have g:=J2h r.length r y n (G0o _) u
        dsimp only at h
        cases l:wd k (r.drop n)with
        | error e=>rw[l]at h;cases h
        | ok z=>
          rcases z with⟨o,p,s⟩
          rw[l]at h
          have:=wd_len k (r.drop n) o p s l
          injection h with h
          injection h with d a
          injection a with a f
          subst d;subst a;subst f
          simp at this |-
          omega
     injection h with h
     injection h with d a
     injection a with a f
     subst d;subst a;subst f
     simp
theorem J5a{p:Nat}{t:Str}{l l':List Token}{k o:List Str}{m:Nat}(A:2<=t.length)(h:here p t l k=.ok (l',o,m)):l'.length<=1024/\l'.length=l.length+1/\1<=m/\m<=t.length/\o.length=k.length+1:=by
 have hb:=Q5b (t.drop 2).length (t.drop 2) (G0o _)
 unfold here at h
 generalize blankN (t.drop 2)=b at *
 cases a:wd (t.drop (2+b)).length (t.drop (2+b))with
 | error e=>rw[a]at h;cases h
 | ok y=>
   rcases y with⟨x,q,n⟩
   rw[a]at h
   have g:=wd_len _ _ _ _ _ a
   dsimp only at h
   by_cases s:n=0
   ·rw[G0e s,Q0b]at h;cases h
   rw[G0d s,Q0a]at h
   cases d:push l ⟨4,p,x,q⟩with
   | error e=>rw[d]at h;cases h
   | ok C=>
     rw[d]at h
     injection h with h
     injection h with u f
     injection f with f z
     subst u;subst f;subst z
     obtain⟨rfl,k2⟩:=push_ok d
     simp at g hb k2 |-
     omega
theorem Z4w{p:Nat}{t:Str}{l:List Token}{m:List Str}{q c:Int}(h:here p t l m=.error (q,c)):c≠0:=by
 unfold here at h
 cases f:wd (t.drop (2+blankN (t.drop 2))).length (t.drop (2+blankN (t.drop 2)))with
 | error e=>
   rw[f]at h
   injection h with h
   injection h with g a
   rw[<-a]
   decide
 | ok y=>
   rcases y with⟨x,o,n⟩
   rw[f]at h
   dsimp only at h
   by_cases k:n=0
   ·rw[G0e k,Q0b]at h
    injection h with h
    injection h with g a
    rw[<-a]
    decide
   rw[G0d k,Q0a]at h
   cases d:push l ⟨4,p,x,o⟩with
   | error e=>
     rcases e with⟨s,c2⟩
     rw[d]at h
     injection h with h
     injection h with g a
     rw[<-a,Q7f d]
     decide
   | ok u=>rw[d]at h;cases h
theorem K5w:∀c:UInt8,START.contains c=false->c≠124->c≠62->c≠60->c≠32->c≠9->c≠10->c≠39->SYMI.contains c=false:=by
 intro c
 have:∀k:Fin 256,(START.contains (UInt8.ofNat k.val)||([124,62,60,32,9,10,39]:Str).contains (UInt8.ofNat k.val)||!SYMI.contains (UInt8.ofNat k.val))=true:=by decide +kernel
 have h:=this ⟨c.toNat,G7d c⟩
 rw[G4s]at h
 intro a d f g l m o p
 have q:([124,62,60,32,9,10,39]:Str).contains c=false:=by
  rw[G6a]
  intro e
  simp at e
  rcases e with e|e|e|e|e|e|e
  ·exact d e
  ·exact f e
  ·exact g e
  ·exact l e
  ·exact m e
  ·exact o e
  exact p e
 rw[a,q]at h
 simpa using h
theorem J6k:∀ (a:List Str) (t:Str),(∀w∈a,w≠[])->symB a t=.ok []->∀w∈a,w.isPrefixOf t=false
 | [],t,_,_=>by simp
 | v::a,t,f,h=>by
   rw[symB]at h
   cases e:v.isPrefixOf t with
   | false=>
     rw[e,Q0a]at h
     have:=J6k a t (λw d=>f w (G2w _ d)) h
     intro w d
     rcases G1q.1 d with rfl|d
     ·exact e
     exact this w d
   | true=>
     exfalso
     have g:=f v (G4k ..)
     rw[e,Q0b]at h
     cases hb:([91]:Str).isPrefixOf (t.drop v.length)with
     | false=>rw[hb,Q0a]at h;injection h with h;exact g h
     | true=>
       rw[hb,Q0b]at h
       split at h
       ·cases h
       injection h with h
       have k:=(G2c.1 e).length_le
       have:=G3t List.length h
       have l:0<v.length:=G4a.2 g
       rw[G1h]at this
       simp only[G0j]at this
       omega
theorem J6n:∀ (a:List Str) (c:UInt8) (r:Str),(∀w∈a,w≠[])->symA a (c::r)=.ok []->START.contains c=false/\symB [[62,62],[62],[60],[124]] (c::r)=.ok []
 | [],c,r,_,h=>by
   rw[symA]at h
   cases d:START.contains c with
   | true=>rw[d,Q0b]at h;injection h with h;cases h
   | false=>rw[d,Q0a]at h;exact⟨rfl,h⟩
 | w::a,c,r,e,h=>by
   rw[symA]at h
   cases f:w.isPrefixOf (c::r)with
   | false=>rw[f,Q0a]at h;exact J6n a c r (λw g=>e w (G2w _ g)) h
   | true=>
     rw[f,Q0b]at h
     injection h with h
     exact absurd h (e w (G4k ..))
theorem X6o{c:UInt8}{r x q:Str}{k m:Nat}(hb:blankN (c::r)=0)(H:c≠10)(hs:sym (c::r)=.ok [])(h:wd (k+1) (c::r)=.ok (x,q,m)):1<=m:=by
 rw[wd]at h
 cases o:ord (c::r)with
 | true=>
   rw[o,Q0b]at h
   cases f:wd k r with
   | error e=>rw[f]at h;cases h
   | ok y=>
     rcases y with⟨I,J,K⟩
     rw[f]at h
     injection h with h
     injection h with p a
     injection a with a g
     omega
 | false=>
   rw[o,Q0a]at h
   by_cases u:c=39
   ·rw[if_pos u]at h
    cases A:qd r with
    | none=>rw[A]at h;cases h
    | some y=>
      rcases y with⟨y,n⟩
      rw[A]at h
      dsimp only at h
      cases f:wd k (r.drop n)with
      | error e=>rw[f]at h;cases h
      | ok z=>
        rcases z with⟨I,J,K⟩
        rw[f]at h
        injection h with h
        injection h with p a
        injection a with a g
        omega
   exfalso
   obtain⟨p,a⟩:=J6n _ c r (by simp) hs
   have g:=J6k _ _ (by simp) a
   have s:([]:Str).isPrefixOf r=true:=by cases r<;>rfl
   have C:=g [62] (by simp)
   have E:=g [60] (by simp)
   have F:=g [124] (by simp)
   rw[Q0p,s,G2x]at C E F
   have t:c≠32/\c≠9/\([92,10]:Str).isPrefixOf (c::r)=false:=by
    match r,hb with
    | [],hb=>
      unfold blankN at hb
      split at hb
      ·cases hb
      rename_i l
      exact⟨λe=>l (.inl e),λe=>l (.inr e),by rw[Q0p,Z0j,G2d]⟩
    | d::r,hb=>
      unfold blankN at hb
      split at hb
      ·omega
      rename_i l
      split at hb
      ·omega
      rename_i L
      refine⟨λe=>l (.inl e),λe=>l (.inr e),?_⟩
      have s:([]:Str).isPrefixOf r=true:=by cases r<;>rfl
      rw[Q0p,Q0p,s,G2x,G6a]
      intro e
      simp at e
      exact L e
   have:=K5w c p (G4m F) (G4m C) (G4m E) t.1 t.2.1 H u
   have M:ord (c::r)=(!SYMI.contains c&&!([92,10]:Str).isPrefixOf (c::r)):=rfl
   rw[M,this,t.2.2]at o
   cases o
theorem X0j{p:Nat}{c:UInt8}{r:Str}{l l':List Token}{tc:Bool}{m:Nat}(hb:blankN (c::r)=0)(t:c≠10)(h:tok p (c::r) l tc=.ok (l',m)):l'.length<=1024/\1<=m/\m<=(c::r).length:=by
 unfold tok at h
 cases hs:sym (c::r)with
 | error e=>rw[hs]at h;cases h
 | ok w=>
   rw[hs]at h
   match w,hs,h with
   | [],hs,h=>
     dsimp only at h
     cases k:wd (c::r).length (c::r)with
     | error e=>rw[k]at h;cases h
     | ok y=>
       rcases y with⟨x,q,n⟩
       rw[k]at h
       dsimp only at h
       cases a:hat l ⟨1,p,x,q⟩ tc with
       | error e=>rw[a]at h;cases h
       | ok s=>
         rw[a]at h
         injection h with h
         injection h with f g
         subst f;subst g
         exact⟨X9r a,X6o hb t hs k,(wd_len _ _ _ _ _ k).1⟩
   | d::w,hs,h=>
     dsimp only at h
     have u:=(sym_pre hs).length_le
     cases a:hat l ⟨2,p,d::w,[]⟩ tc with
     | error e=>rw[a]at h;cases h
     | ok s=>
       rw[a]at h
       dsimp only at h
       cases hd:decide (d::w=[36])||decide (d::w=[36,35])with
       | false=>
         rw[hd,Q0a]at h
         injection h with h
         injection h with f g
         subst f;subst g
         exact⟨X9r a,by simp,u⟩
       | true=>
         rw[hd,Q0b]at h
         cases o:name (p+(d::w).length) ((c::r).drop (d::w).length) s with
         | error e=>rw[o]at h;cases h
         | ok z=>
           rw[o]at h
           injection h with h
           injection h with f g
           subst f;subst g
           have:=nameN_le ((c::r).drop (d::w).length)
           rw[G0p]at this
           exact⟨K2t o,by simp;omega,by omega⟩
theorem J3z{p:Nat}{t:Str}{l:List Token}{tc:Bool}{q c:Int}(h:tok p t l tc=.error (q,c)):c≠0:=by
 unfold tok at h
 cases hs:sym t with
 | error e=>
   rw[hs]at h
   injection h with h
   injection h with g a
   rw[<-a]
   decide
 | ok w=>
   rw[hs]at h
   match w,hs,h with
   | [],hs,h=>
     dsimp only at h
     cases m:wd t.length t with
     | error e=>
       rw[m]at h
       injection h with h
       injection h with g a
       rw[<-a]
       decide
     | ok y=>
       rcases y with⟨x,u,n⟩
       rw[m]at h
       dsimp only at h
       cases f:hat l ⟨1,p,x,u⟩ tc with
       | error e=>
         rcases e with⟨o,c2⟩
         rw[f]at h
         injection h with h
         injection h with g a
         rw[<-a,X3g f]
         decide
       | ok s=>rw[f]at h;cases h
   | d::w,hs,h=>
     dsimp only at h
     cases f:hat l ⟨2,p,d::w,[]⟩ tc with
     | error e=>
       rcases e with⟨o,c2⟩
       rw[f]at h
       injection h with h
       injection h with g a
       rw[<-a,X3g f]
       decide
     | ok s=>
       rw[f]at h
       dsimp only at h
       cases hd:decide (d::w=[36])||decide (d::w=[36,35])with
       | false=>rw[hd,Q0a]at h;cases h
       | true=>
         rw[hd,Q0b]at h
         cases k:name (p+(d::w).length) (t.drop (d::w).length) s with
         | error e=>
           rcases e with⟨o,c2⟩
           rw[k]at h
           injection h with h
           injection h with g a
           rw[<-a]
           exact X7i k
         | ok z=>rw[k]at h;cases h
theorem Q3s:∀ (k:Nat) (t:Str),t.length<=k->blankN (t.drop (blankN t))=0
 | _,[],_=>rfl
 | _,[c],_=>by
   by_cases h:c=32\/c=9
   ·have:blankN [c]=1:=by unfold blankN;rw[if_pos h]
    rw[this]
    rfl
   have:blankN [c]=0:=by unfold blankN;rw[if_neg h]
   rw[this,G3e,this]
 | 0,c::d::r,h=>by simp at h
 | k+1,c::d::r,h=>by
   simp only[G0h]at h
   by_cases a:c=32\/c=9
   ·have:blankN (c::d::r)=blankN (d::r)+1:=by rw[blankN,if_pos a,G6n]
    rw[this,G3z]
    exact Q3s k (d::r) (by simp;omega)
   by_cases e:c=92/\d=10
   ·have:blankN (c::d::r)=blankN r+1+1:=by rw[blankN,if_neg a,if_pos e];omega
    rw[this,G3z,G3z]
    exact Q3s k r (by omega)
   have:blankN (c::d::r)=0:=by rw[blankN,if_neg a,if_neg e]
   rw[this,G3e,this]
def cmt(t:Str):Nat:=if 0<=Lib.indexByte t 10 then(Lib.indexByte t 10).toNat else t.length
theorem J7n{t:Str}(h:(10:UInt8)∉t):cmt t=t.length:=by
 unfold cmt
 rw[Q1z 10 t h,if_neg (by omega)]
theorem K0d{a:Str}(b:Str)(h:(10:UInt8)∉a):cmt (a++10::b)=a.length:=by
 unfold cmt
 rw[indexByte_at 10 b a h,if_pos (by omega),G2o]
def lex:Nat->Nat->Str->List Token->List Str->Except (Int×Int) (List Token)
 | 0,_,_,_,_=>.error (0,1)
 | k+1,p,t,l,a=>
   match t.drop (blankN t)with
   | []=>bif decide (0<a.length)then .error (((p+blankN t:Nat):Int),3)else .ok l
   | c::r=>
     bif decide (c=35)then lex k (p+blankN t+cmt (c::r)) ((c::r).drop (cmt (c::r))) l a
     else bif decide (c=10)then(match nls (p+blankN t) (c::r) l a with
      | .error e=>.error e
      | .ok (d,m)=>lex k (p+blankN t+m) ((c::r).drop m) d [])
     else bif ([60,60]:Str).isPrefixOf (c::r)then(match here (p+blankN t) (c::r) l a with
      | .error e=>.error e
      | .ok (d,f,m)=>lex k (p+blankN t+m) ((c::r).drop m) d f)
     else(match tok (p+blankN t) (c::r) l (lastWord l&&decide (blankN t=0))with
      | .error e=>.error e
      | .ok (d,m)=>lex k (p+blankN t+m) ((c::r).drop m) d a)
def J1a(w:Except (Int×Int) (List Token))(r:Option (List Token×Int×Int)):Prop:=
 match w with
 | .ok l=>r=some (l,0,0)
 | .error (q,c)=>r=some ([],q,c)/\c≠0
theorem X3h(s:Str)(n:Nat)(a d q c:Int)(l:List Token)(e:List Str)(f:0<n)(g:c≠0):iter (Z4c s) n (a,d,q,c,l,e)=some ([],q,c):=by
 match n,f with
 | n+1,_=>
   show Z4c s _ _=_
   rw[Z4c,G0d g,Q0a]
theorem K6y{s:Str}(hl:s.length<=100000):∀ (k:Nat) (t pre:Str) (n:Nat) (O f:Int) (l:List Token) (g:List Str),t.length<k->s=pre++t->t.length+1<n->l.length<=1024->g.length+t.length<=1000000->
 J1a (lex k pre.length t l g) (iter (Z4c s) n ((pre.length:Int),O,f,0,l,g)):=by
 intro k
 induction k with
 | zero=>intro t pre n O f l g hk;omega
 | succ k E=>
   intro t pre n O f l g hk hs V W aq
   match n,V with
   | n+1,V=>
     have ar:s.length=pre.length+t.length:=by rw[hs];simp
     have hb:=Q5b t.length t (G0o _)
     have L:=Q3s t.length t (G0o _)
     have ad:=K1e hs (by omega) (pre.length:Int) f 0 l g
     have u:s=(pre++t.take (blankN t))++t.drop (blankN t):=by rw[hs,G0z,G1v]
     have F:(pre++t.take (blankN t)).length=pre.length+blankN t:=by simp;omega
     have z:(t.drop (blankN t)).length=t.length-blankN t:=by simp
     have X:=Q9b u (pre.length:Int) f 0 l g
     rw[F]at X
     rw[lex]
     show J1a _ (Z4c s _ _)
     rw[Z4c,G0e (p:=(0:Int)=0) rfl,Q0b,ad,G0a,X,G0a]
     generalize blankN t=b at *
     generalize t.drop b=t' at *
     match t',u,L,z with
     | [],u,L,z=>
       rw[G0e (p:=([]:Str)=[]) rfl,Q0b]
       dsimp only
       by_cases M:0<g.length
       ·rw[G0e M,Q0b,G0e (by omega),Q0b]
        have:(s.length:Int)=((pre.length+b:Nat):Int):=by simp at z;omega
        rw[this]
        exact⟨rfl,by decide⟩
       rw[G0d M,Q0a,G0d (by omega),Q0a]
       exact rfl
     | c::r,u,L,z=>
       have M:sidx (c::r) 0=some (B c):=Q0u [] c r
       have cut:∀m,m<=(c::r).length->s=(pre++t.take b++(c::r).take m)++(c::r).drop m/\(pre++t.take b++(c::r).take m).length=pre.length+b+m:=by
        intro m hm
        refine⟨by rw[G0z (pre++t.take b),G1v];exact u,?_⟩
        rw[G0i,F,G1h]
        omega
       rw[G0d (p:=c::r=[]) (by simp),Q0a,M,G0a,B35,B10]
       dsimp only
       by_cases Q:c=35
       ·rw[G0e Q,Q0b,Q0b,Q0h,G0a,show(10:Int).toNat.toUInt8=10 by decide]
        rcases firstOf 10 (c::r)with H|⟨a,w,H,A⟩
        ·obtain⟨o,c2⟩:=cut (c::r).length (G0o _)
         rw[Q1z 10 _ H,G0d (by omega),Q0a,J7n H,Q0f (by omega) (by omega)]
         have h:=E ((c::r).drop (c::r).length) _ n (pre.length:Int) f l g (by simp at z |-;omega) o (by simp at z |-;omega) W (by simp;omega)
         rw[c2]at h
         exact h
        have av:(c::r).length=a.length+(w.length+1):=by rw[A];simp
        have aw:0<a.length:=by
         match a,A with
         | [],A=>
           have:c=10:=(G6g A).1
           rw[Q]at this
           exact absurd this (by decide)
         | d::a,_=>simp
        obtain⟨o,c2⟩:=cut a.length (by omega)
        have hi:Lib.indexByte (c::r) 10=(a.length:Int):=by rw[A];exact indexByte_at 10 w a H
        have hc:cmt (c::r)=a.length:=by rw[A];exact K0d w H
        rw[hi,G0e (by omega),Q0b,hc,Q0f (n:=(((pre.length+b:Nat):Int)+((c::r).length:Int))) (by omega) (by omega),Q0f (n:=(a.length:Int)-((c::r).length:Int)) (by omega) (by omega),Q0f (by omega) (by omega)]
        have e1:((pre.length+b:Nat):Int)+((c::r).length:Int)+((a.length:Int)-((c::r).length:Int))=((pre.length+b+a.length:Nat):Int):=by omega
        rw[e1]
        have h:=E ((c::r).drop a.length) _ n (pre.length:Int) f l g (by rw[G0p];omega) o (by rw[G0p];omega) W (by rw[G0p];omega)
        rw[c2]at h
        exact h
       rw[G0d Q,Q0a,Q0a]
       by_cases U:c=10
       ·rw[G0e U,Q0b,Q0b]
        have I:=V9c u (by simp) (by omega) (pre.length:Int) f 0 l g (by omega)
        rw[F]at I
        cases hq:nls (pre.length+b) (c::r) l g with
        | error e=>
          rcases e with⟨q,cc⟩
          rw[hq]at I
          obtain⟨bb,j,l',J⟩:=I
          rw[J,G0a]
          dsimp only
          rw[Q0a]
          exact⟨X3h s n _ _ _ _ _ _ (by omega) (X2g hq),X2g hq⟩
        | ok y=>
          rcases y with⟨x,m⟩
          rw[hq]at I
          obtain⟨g1,Y,g3⟩:=X9l (by simp) hq
          have aj:J5v s ((pre.length+b:Nat):Int) (pre.length:Int) f 0 l g=some (true,true,((pre.length+b+m:Nat):Int),f,0,x):=I
          rw[aj,G0a]
          dsimp only
          rw[Q0b]
          obtain⟨o,c2⟩:=cut m g3
          have h:=E ((c::r).drop m) _ n (pre.length:Int) f x [] (by rw[G0p];omega) o (by rw[G0p];omega) g1 (by rw[G0p];simp only[G0j];omega)
          rw[c2]at h
          exact h
       rw[G0d U,Q0a,Q0a,Q6f _ _ (by omega),G0a]
       cases ak:([60,60]:Str).isPrefixOf (c::r)with
       | true=>
         rw[Q0b,Q0b]
         have aa:=(G2c.1 ak).length_le
         have K:=V9b u aa (by omega) (pre.length:Int) f 0 l g (by omega)
         rw[F]at K
         cases hq:here (pre.length+b) (c::r) l g with
         | error e=>
           rcases e with⟨q,cc⟩
           rw[hq]at K
           obtain⟨bb,j,l',ax,J⟩:=K
           rw[J,G0a]
           dsimp only
           exact⟨X3h s n _ _ _ _ _ _ (by omega) (Z4w hq),Z4w hq⟩
         | ok y=>
           rcases y with⟨x,ac,m⟩
           rw[hq]at K
           obtain⟨g1,_,Y,g3,g4⟩:=J5a aa hq
           have al:J5u s ((pre.length+b:Nat):Int) (pre.length:Int) f 0 l g=some (true,((pre.length+b+m:Nat):Int),f,0,x,ac):=K
           rw[al,G0a]
           dsimp only
           obtain⟨o,c2⟩:=cut m g3
           have h:=E ((c::r).drop m) _ n (pre.length:Int) f x ac (by rw[G0p];omega) o (by rw[G0p];omega) g1 (by rw[G0p];omega)
           rw[c2]at h
           exact h
       | false=>
         rw[Q0a,Q0a]
         have C:=V9a u (by omega) (pre.length:Int) f 0 l g (by omega)
         rw[F]at C
         have hd:decide ((pre.length:Int)=((pre.length+b:Nat):Int))=decide (b=0):=G5m.2 ⟨λe=>by omega,λe=>by omega⟩
         rw[hd]at C
         cases hq:tok (pre.length+b) (c::r) l (lastWord l&&decide (b=0))with
         | error e=>
           rcases e with⟨q,cc⟩
           rw[hq]at C
           obtain⟨j,l',J⟩:=C
           rw[J,G0a]
           dsimp only
           exact⟨X3h s n _ _ _ _ _ _ (by omega) (J3z hq),J3z hq⟩
         | ok y=>
           rcases y with⟨x,m⟩
           rw[hq]at C
           obtain⟨g1,Y,g3⟩:=X0j L U hq
           have am:F44 s ((pre.length+b:Nat):Int) (pre.length:Int) f 0 l g=some (true,((pre.length+b+m:Nat):Int),f,0,x):=C
           rw[am,G0a]
           dsimp only
           obtain⟨o,c2⟩:=cut m g3
           have h:=E ((c::r).drop m) _ n (pre.length:Int) f x g (by rw[G0p];omega) o (by rw[G0p];omega) g1 (by rw[G0p];omega)
           rw[c2]at h
           exact h
theorem F5_eq(s:Str)(a:s.length<=65536):J1a (lex (s.length+1) 0 s [] []) (F19 s):=by
 unfold F19
 rw[G0d (by omega),Q0a]
 exact K6y (s:=s) (by omega) (s.length+1) s [] BIG 0 0 [] [] (by omega) rfl (by unfold BIG;omega) (by simp) (by simp;omega)
theorem lex_len:∀ (k p:Nat) (t:Str) (l l':List Token) (d:List Str),l.length<=1024->lex k p t l d=.ok l'->l'.length<=1024
 | 0,p,t,l,l',d,o,h=>by rw[lex]at h;cases h
 | k+1,p,t,l,l',d,o,a=>by
   rw[lex]at a
   have g:=Q3s t.length t (G0o _)
   generalize blankN t=b at *
   generalize t.drop b=t' at *
   match t',g,a with
   | [],g,a=>
     dsimp only at a
     cases hd:decide (0<d.length)with
     | true=>rw[hd,Q0b]at a;cases a
     | false=>rw[hd,Q0a]at a;injection a with a;subst a;exact o
   | f::r,g,a=>
     dsimp only at a
     by_cases u:f=35
     ·rw[G0e u,Q0b]at a
      exact lex_len _ _ _ _ _ _ o a
     rw[G0d u,Q0a]at a
     by_cases q:f=10
     ·rw[G0e q,Q0b]at a
      cases hq:nls (p+b) (f::r) l d with
      | error e=>rw[hq]at a;cases a
      | ok y=>
        rcases y with⟨x,m⟩
        rw[hq]at a
        exact lex_len _ _ _ _ _ _ (X9l (by simp) hq).1 a
     rw[G0d q,Q0a]at a
     cases s:([60,60]:Str).isPrefixOf (f::r)with
     | true=>
       rw[s,Q0b]at a
       cases hq:here (p+b) (f::r) l d with
       | error e=>rw[hq]at a;cases a
       | ok y=>
         rcases y with⟨x,z,m⟩
         rw[hq]at a
         exact lex_len _ _ _ _ _ _ (J5a (G2c.1 s).length_le hq).1 a
     | false=>
       rw[s,Q0a]at a
       cases hq:tok (p+b) (f::r) l (lastWord l&&decide (b=0))with
       | error e=>rw[hq]at a;cases a
       | ok y=>
         rcases y with⟨x,m⟩
         rw[hq]at a
         exact lex_len _ _ _ _ _ _ (X0j g q hq).1 a
theorem K5c{s pre:Str}(hs:s=pre)(a:s.length<=1000000):F88 s (pre.length:Int)=some 0:=by
 subst hs
 unfold F88
 rw[Q0f (by omega) (by omega),G0d (by omega),G0d (by omega)]
 rfl
theorem X3n{c:UInt8}{r:Str}(h:c=32\/c=9):gap c r=1/\blankN (c::r)=1+blankN r:=by
 refine⟨?_,?_⟩
 ·unfold gap
  rw[show(decide (c=32)||decide (c=9))=true by simpa using h]
  rfl
 match r with
 | []=>simp[blankN,h]
 | d::r=>rw[blankN,if_pos h]
theorem K3c{r:Str}:gap 92 (10::r)=2/\blankN (92::10::r)=2+blankN r:=⟨rfl,rfl⟩
theorem J7h{c:UInt8}{r:Str}(h:¬ (c=32\/c=9))(a:¬ (c=92/\nl r=true)):gap c r=0/\blankN (c::r)=0:=by
 refine⟨?_,?_⟩
 ·unfold gap
  rw[show(decide (c=32)||decide (c=9))=false by simpa using h,show(decide (c=92)&&nl r)=false by simpa using a]
  rfl
 match r,a with
 | [],_=>simp[blankN,h]
 | d::r,a=>
   rw[blankN,if_neg h,if_neg (λe=>a ⟨e.1,by simp[nl,e.2]⟩)]
theorem Z6a(c:UInt8)(r:Str):(gap c r=1/\blankN (c::r)=1+blankN r)\/(∃e,r=10::e/\gap c r=2/\blankN (c::r)=2+blankN e)\/(gap c r=0/\blankN (c::r)=0):=by
 by_cases h:c=32\/c=9
 ·exact .inl (X3n h)
 by_cases a:c=92/\nl r=true
 ·obtain⟨rfl,a⟩:=a
  match r,a with
  | d::r,a=>
    have:d=10:=by simpa[nl]using a
    subst this
    exact .inr (.inl ⟨r,rfl,K3c⟩)
 exact .inr (.inr (J7h h a))
theorem ordR(c:UInt8)(r:Str):(decide (gap c r=0)&&!SYM.contains c)=ord (c::r):=by
 have hS:∀c:UInt8,SYMI.contains c=(decide (c=32\/c=9)||SYM.contains c):=by
  intro c
  simp[SYMI,SYM,Bool.decide_or,Bool.or_assoc]
 show _=(!SYMI.contains c&&!([92,10]:Str).isPrefixOf (c::r))
 rw[hS,Q0p]
 by_cases h:c=32\/c=9
 ·rw[(X3n h).1,G0e h]
  rfl
 rw[G0d h,G1p]
 have e:([10]:Str).isPrefixOf r=nl r:=by
  match r with
  | []=>rfl
  | d::r=>rw[Q0p,nl];cases r<;>simp
 rw[e]
 by_cases a:c=92/\nl r=true
 ·have:gap c r=2:=by
   obtain⟨rfl,a⟩:=a
   unfold gap
   rw[a]
   rfl
  rw[this,a.2,G0e a.1]
  simp
 rw[(J7h h a).1]
 have:(decide (c=92)&&nl r)=false:=by simpa using a
 rw[this]
 simp
def ansQ(at_ p:Nat)(b:Str)(v:Str):Part:=
 match qd v with
 | some (x,m)=>⟨b++x,List.replicate (b++x).length 49,((p+m:Nat):Int),true⟩
 | none=>⟨[],[],(at_:Int),false⟩
theorem Z0l{a b:Str}(h:a.length+b.length<=100000000):catO a b=some (a++b):=X4j (by omega)
theorem J6s(n:Nat)(c:UInt8):List.replicate n c++[c]=List.replicate (n+1) c:=by
 rw[List.replicate_succ']
theorem K6q{s:Str}(K:s.length<=1000000)(at_:Nat):∀ (k:Nat) (v pre b:Str) (n:Nat),v.length<=k->s=pre++v->v.length<n->b.length+v.length<=10000000->
 iter (Q7t s (at_:Int)) n ((pre.length:Int),b,List.replicate b.length 49)=some (ansQ at_ pre.length b v):=by
 intro k
 induction k with
 | zero=>
   intro v pre b n f hs a hb
   have:v=[]:=G3c.1 (by omega)
   subst this
   match n,a with
   | n+1,a=>
     show Q7t s _ _ _=_
     have g:s.length=pre.length:=by rw[hs];simp
     rw[Q7t,G0d (by omega),Q0a]
     rfl
 | succ k q=>
   intro v pre b n f hs a hb
   match v,f,hs,a,hb with
   | [],f,hs,a,hb=>exact q [] pre b n (by simp) hs a hb
   | c::r,f,hs,a,hb=>
     match n,a with
     | n+1,a=>
       have g:s.length=pre.length+(r.length+1):=by rw[hs];simp
       have u:sidx s (pre.length:Int)=some (B c):=by rw[hs];exact Q0u pre c r
       simp only[G0h]at f a hb
       have L:((pre++[c]).length:Int)=(pre.length:Int)+1:=by simp
       have t:∀ (i:Nat) (d:UInt8) (w e:Str),s=e++d::w->i=e.length->w.length<=k->w.length<n->b.length+1+w.length<=10000000->
        Z3b s b (List.replicate b.length 49) (iter (Q7t s (at_:Int)) n) (i:Int)=some (ansQ at_ (e.length+1) (b++[d]) w):=by
        intro i d w e o y z A M
        subst y
        have O:s.length=e.length+(w.length+1):=by rw[o];simp
        have C:Q0m s (e.length:Int) ((e.length:Int)+1)=some [d]:=by rw[o];exact Z2c e d w
        rw[Z3b,Q0f (by omega) (by omega),C,G0a,Z0l (by simp;omega),G0a,Z0l (by simp;omega),G0a,J6s]
        have h:=q w (e++[d]) (b++[d]) n z (by rw[o];simp) A (by simp;omega)
        have E:((e++[d]).length:Int)=(e.length:Int)+1:=by simp
        have F:(b++[d]).length=b.length+1:=by simp
        have H:(e++[d]).length=e.length+1:=by simp
        rw[E,F,H]at h
        exact h
       show Q7t s _ _ _=_
       rw[Q7t,G0e (by omega),Q0b,u,G0a,B39]
       by_cases l:c=39
       ·subst l
        rw[G0e rfl,Q0b,Q0f (by omega) (by omega)]
        match r,hs,g,f,a,hb with
        | [],hs,g,f,a,hb=>
          rw[G0e (p:=(pre.length:Int)+1=(s.length:Int)) (by simp at g;omega)]
          simp only[G0u,Q0e,Q0a,G0a,G3d,Q0b]
          simp[ansQ,qd]
        | d::w,hs,g,f,a,hb=>
          have I:sidx s ((pre.length:Int)+1)=some (B d):=by
           have:s=(pre++[39])++d::w:=by rw[hs];simp
           have h:=Q0u (pre++[39]) d w
           rw[<-this]at h
           simpa using h
          rw[G0d (p:=(pre.length:Int)+1=(s.length:Int)) (by simp at g;omega),I]
          simp only[G0q,Q0e,Q0b,G0a,G1p,B39]
          by_cases hd:d=39
          ·subst hd
           simp only[G4n,G0u,Q0a]
           have Q:(39::w:Str).length=w.length+1:=rfl
           have h:=t (pre.length+1) 39 w (pre++[39]) (by rw[hs];simp) (by simp) (by omega) (by omega) (by omega)
           have J:((pre.length+1:Nat):Int)=(pre.length:Int)+1:=by omega
           rw[J]at h
           rw[h]
           unfold ansQ
           rw[X9h]
           cases hq:qd w with
           | none=>rfl
           | some p=>
             rcases p with⟨x,m⟩
             simp
             omega
          rw[G0d hd]
          simp only[G0q,Q0b]
          simp[ansQ,qd,hd]
       rw[G0d l,Q0a]
       have h:=t pre.length c r pre hs rfl (by omega) (by omega) (by omega)
       rw[h]
       unfold ansQ
       match r with
       | []=>simp[qd,l]
       | d::w=>
         have hq:qd (c::d::w)=(qd (d::w)).map λ(x,n)=>(c::x,n+1):=by rw[qd,if_neg l]
         rw[hq]
         cases qd (d::w)with
         | none=>rfl
         | some p=>
           rcases p with⟨x,m⟩
           simp
           omega
theorem V8i{s pre v:Str}{c:UInt8}(hs:s=pre++c::v)(a:s.length<=1000000):F139 s (pre.length:Int)=some (ansQ pre.length (pre.length+1) [] v):=by
 have e:s.length=pre.length+(v.length+1):=by rw[hs];simp
 unfold F139
 rw[Q0f (by omega) (by omega)]
 have h:=K6q a pre.length v.length v (pre++[c]) [] BIG (G0o _) (by rw[hs];simp) (by unfold BIG;omega) (by simp;omega)
 have d:((pre++[c]).length:Int)=(pre.length:Int)+1:=by simp
 rw[d]at h
 simpa using h
def ansP(p:Nat)(b q:Str)(w:Except Nat (Str×Str×Nat)):Part:=
 match w with
 | .ok (x,y,m)=>⟨b++x,q++y,((p+m:Nat):Int),true⟩
 | .error e=>⟨[],[],((p+e:Nat):Int),false⟩
theorem K2u{s:Str}(g:s.length<=1000000):∀ (k:Nat) (t pre b q:Str) (n:Nat),t.length<=k->s=pre++t->t.length<n->b.length+t.length<=10000000->q.length+t.length<=10000000->
 iter (Z1x s) n (b,q,(pre.length:Int),true)=some (ansP pre.length b q (wd k t)):=by
 intro k
 induction k with
 | zero=>
   intro t pre b q n d hs a hb hq
   have:t=[]:=G3c.1 (by omega)
   subst this
   match n,a with
   | n+1,a=>
     have l:s.length=pre.length:=by rw[hs];simp
     show Z1x s _ _=_
     rw[Z1x]
     unfold F138
     rw[G0d (by omega)]
     simp[Q0e,wd,ansP]
 | succ k o=>
   intro t pre b q n d hs a hb hq
   match t,d,hs,a,hb,hq with
   | [],d,hs,a,hb,hq=>
     match n,a with
     | n+1,a=>
       have l:s.length=pre.length:=by rw[hs];simp
       show Z1x s _ _=_
       rw[Z1x]
       unfold F138
       rw[G0d (by omega)]
       simp[Q0e,wd,ansP]
   | c::r,d,hs,a,hb,hq=>
     match n,a with
     | n+1,a=>
       have l:s.length=pre.length+(r.length+1):=by rw[hs];simp
       have u:sidx s (pre.length:Int)=some (B c):=by rw[hs];exact Q0u pre c r
       simp only[G0h]at d a hb hq
       have z:((pre++[c]).length:Int)=(pre.length:Int)+1:=by simp
       have A:(pre++[c]).length=pre.length+1:=by simp
       show Z1x s _ _=_
       rw[Z1x,V8j hs g,G0a,ordR,G0e (by omega),u,wd]
       cases C:ord (c::r)with
       | true=>
         simp only[G0u,G1o,Q0e,Q0a,G0a,G3d,Q0b,B39]
         have f:c≠39:=by
          rintro rfl
          simp[ord,SYMI]at C
         have E:Q0m s (pre.length:Int) ((pre.length:Int)+1)=some [c]:=by rw[hs];exact Z2c pre c r
         rw[G0d f,Q0a,Q0f (by omega) (by omega),E,G0a,Z0l (by simp;omega),G0a,Z0l (by simp;omega),G0a]
         have h:=o r (pre++[c]) (b++[c]) (q++[48]) n (by omega) (by rw[hs];simp) (by omega) (by simp;omega) (by simp;omega)
         rw[z,A]at h
         rw[h]
         cases F:wd k r with
         | error e=>simp[ansP];omega
         | ok y=>
           rcases y with⟨x,y,m⟩
           simp[ansP]
           omega
       | false=>
         simp only[G0q,G1i,Q0e,Q0b,G0a,G1p,B39,Q0a]
         by_cases f:c=39
         ·subst f
          rw[if_pos rfl]
          simp only[G4n,Q0b]
          rw[V8i hs g,G0a]
          unfold ansQ
          cases H:qd r with
          | none=>
            simp[ansP]
          | some p=>
            rcases p with⟨x,m⟩
            obtain⟨K,L,M⟩:=J2h r.length r x m (G0o _) H
            simp only[G1y,G0u,Q0a]
            rw[Z0l (by omega),G0a,Z0l (by simp;omega),G0a]
            have I:s=(pre++39::r.take m)++r.drop m:=by rw[hs];simp
            have J:(pre++39::r.take m).length=pre.length+1+m:=by simp;omega
            have h:=o (r.drop m) (pre++39::r.take m) (b++x) (q++List.replicate x.length 49) n (by rw[G0p];omega) I (by rw[G0p];omega) (by rw[G0p,G0i];omega) (by rw[G0p,G0i,G1w];omega)
            rw[J]at h
            rw[h]
            cases F:wd k (r.drop m)with
            | error e=>simp[ansP];omega
            | ok y=>
              rcases y with⟨O,Q,U⟩
              simp[ansP]
              omega
         rw[if_neg f,G0d f]
         simp[ansP]
theorem X5o{s pre t:Str}(hs:s=pre++t)(a:s.length<=1000000):F94 s (pre.length:Int)=some (ansP pre.length [] [] (wd t.length t)):=by
 have d:s.length=pre.length+t.length:=by rw[hs];simp
 exact K2u a t.length t pre [] [] BIG (G0o _) hs (by unfold BIG;omega) (by simp;omega) (by simp;omega)
theorem J3q(a e:Int)(nm:Bool)(off c q:Int)(l:List Token)(d:List Str):F53 a e nm 0 off c q l d=some (a,e,nm,c,q):=rfl
theorem K5f(a e:Int)(nm:Bool){x:Int}(d:x≠0)(off c q:Int)(l:List Token)(f:List Str):F53 a e nm x off c q l f=some (a,e,nm,x,off):=by
 unfold F53
 rw[G0d d]
 rfl
theorem Z7c(a e:Int)(nm:Bool)(off:Int)(u:Token)(l:List Token)(d:List Str):F89 a e nm 0 off u l d=(match push l u with
 | .ok l'=>some (a,e,nm,0,off,l')
 | .error (q,c)=>some (a,e,nm,c,q,l)):=by
 unfold F89 push
 by_cases h:1024<=l.length
 ·rw[G0e (by omega),Q0b,J3q,if_pos h]
  rfl
 rw[G0d (by omega),Q0a,if_neg h,Q0n (by simp;omega)]
 rfl
theorem X5p(a e:Int)(nm:Bool){x:Int}(d:x≠0)(off:Int)(u:Token)(l:List Token)(f:List Str):∃l',F89 a e nm x off u l f=some (a,e,nm,x,off,l'):=by
 unfold F89
 by_cases h:1024<=l.length
 ·rw[G0e (by omega),Q0b,K5f _ _ _ d]
  exact⟨_,rfl⟩
 rw[G0d (by omega),Q0a,Q0n (by simp;omega)]
 exact⟨_,rfl⟩
theorem J2m{l:List Token}{u:Token}{q c:Int}(h:push l u=.error (q,c)):c≠0:=by
 rw[Q7f h]
 decide
theorem V8m(c:UInt8):F135 (B c)=some (Q3q c):=rfl
theorem K6v{s a t0:Str}(k:s=a++t0)(U:s.length<=1000000)(e:Int)(nm:Bool)(off:Int)(l:List Token)(m:List Str):∀ (t d:Str) (n:Nat),t0=d++t->Q1u t0=d.length+Q1u t->t.length<n->
 iter (Z6v s (a.length:Int) e nm 0 off l m) n (((a.length+d.length:Nat):Int),List.replicate d.length 48)=(match name a.length t0 l with
  | .ok l'=>some (((a.length+Q1u t0:Nat):Int),((a.length+Q1u t0:Nat):Int),false,0,off,l')
  | .error (q,c)=>if Q1u t0=0 then some ((a.length:Int),e,nm,c,q,l)else some (((a.length+Q1u t0:Nat):Int),((a.length+Q1u t0:Nat):Int),false,c,q,l)):=by
 have fin:∀ (t d:Str),t0=d++t->Q1u t0=d.length->
  (bif decide (((a.length+d.length:Nat):Int)=(a.length:Int))then
    (F53 (a.length:Int) e nm 0 off 47 (a.length:Int) l m).bind λ(p,u,x,z,A)=>some (p,u,x,z,A,l)
  else
   (Q0m s (a.length:Int) ((a.length+d.length:Nat):Int)).bind λC=>
   (F89 (a.length:Int) e nm 0 off (Token.mk 1 (a.length:Int) C (List.replicate d.length 48)) l m).bind λ(V,W,X,E,F,H)=>
   some (((a.length+d.length:Nat):Int),((a.length+d.length:Nat):Int),false,E,F,H))=(match name a.length t0 l with
  | .ok l'=>some (((a.length+Q1u t0:Nat):Int),((a.length+Q1u t0:Nat):Int),false,0,off,l')
  | .error (q,c)=>if Q1u t0=0 then some ((a.length:Int),e,nm,c,q,l)else some (((a.length+Q1u t0:Nat):Int),((a.length+Q1u t0:Nat):Int),false,c,q,l)):=by
  intro t d f hd
  unfold name
  by_cases I:d.length=0
  ·rw[G0e (by omega),Q0b,if_pos (by omega),J3q]
   dsimp only
   rw[if_pos (by omega)]
   rfl
  have o:s.length=a.length+(d.length+t.length):=by rw[k,f];simp
  have J:Q0m s (a.length:Int) ((a.length+d.length:Nat):Int)=some d:=by
   have h:=sslice_part a d t
   rw[G0z,<-f,<-k,G0i]at h
   exact h
  have K:t0.take (Q1u t0)=d:=by rw[hd,f];simp
  rw[G0d (by omega),Q0a,if_neg (by omega),J,G0a,Z7c,K,hd]
  cases push l ⟨1,(a.length:Int),d,List.replicate d.length 48⟩with
  | error y=>
    rcases y with⟨q,c⟩
    dsimp only
    rw[if_neg I]
    rfl
  | ok Y=>rfl
 intro t
 induction t with
 | nil=>
   intro d n f hd g
   match n,g with
   | n+1,g=>
     have o:s.length=a.length+d.length:=by rw[k,f];simp
     show Z6v s _ _ _ _ _ _ _ _ _=_
     rw[Z6v,G0d (by omega)]
     exact fin [] d f hd
 | cons c r L=>
   intro d n f hd g
   match n,g with
   | n+1,g=>
     have o:s.length=a.length+(d.length+(r.length+1)):=by rw[k,f];simp
     have M:sidx s ((a.length+d.length:Nat):Int)=some (B c):=by
      have h:=Q0u (a++d) c r
      rw[G0z,<-f,<-k,G0i]at h
      exact h
     show Z6v s _ _ _ _ _ _ _ _ _=_
     rw[Z6v,G0e (by omega),M]
     simp only[Q0e,Q0b,G0a,V8m,G1i]
     rw[Z8h]at hd
     cases hb:Q3q c with
     | true=>
       rw[Q0b,Q0f (by omega) (by omega),Z0l (by simp;omega),G0a,J6s]
       rw[hb,Q0b]at hd
       have h:=L (d++[c]) n (by rw[f];simp) (by rw[hd];simp;omega) (by simp at g;omega)
       have O:((a.length+(d++[c]).length:Nat):Int)=((a.length+d.length:Nat):Int)+1:=by simp;omega
       have Q:(d++[c]).length=d.length+1:=by simp
       rw[O,Q]at h
       exact h
     | false=>
       rw[Q0a]
       rw[hb,Q0a]at hd
       exact fin (c::r) d f hd
theorem K1a{s pre t:Str}(hs:s=pre++t)(d:s.length<=1000000)(e:Int)(nm:Bool)(off:Int)(l:List Token)(a:List Str):F87 s (pre.length:Int) e nm 0 off l a=(match name pre.length t l with
 | .ok l'=>some (((pre.length+Q1u t:Nat):Int),((pre.length+Q1u t:Nat):Int),false,0,off,l')
 | .error (q,c)=>if Q1u t=0 then some ((pre.length:Int),e,nm,c,q,l)else some (((pre.length+Q1u t:Nat):Int),((pre.length+Q1u t:Nat):Int),false,c,q,l)):=by
 have f:s.length=pre.length+t.length:=by rw[hs];simp
 unfold F87
 exact K6v hs d e nm off l a t [] BIG rfl (by simp) (by unfold BIG;omega)
theorem V8l{s pre t:Str}(hs:s=pre++t)(a:s.length<=1000000)(e:Str):ansD pre.length (doc t.length e t) (F54 s (pre.length:Int) e):=by
 obtain⟨r,d,f⟩:=heres (s:=s) (e:=e) (at_:=(pre.length:Int)) a
 have h:=V8g hs a e
 rw[d]at h
 rw[f]
 exact h
theorem X9s(s:Str)(l:List Token)(W:List Str)(n:Nat)(i a e:Int)(nm:Bool){c:Int}(d:c≠0)(off:Int):iter (Z0b W s l) (n+1) (i,a,e,nm,c,off)=some (a,e,nm,c,off):=by
 show Z0b W s l _ _=_
 rw[Z0b,G0d (p:=c=0) d,G2d,Q0a]
theorem X2n{s:Str}(q:s.length<=1000000)(W:List Str)(t:W.length<=1000000)(l:List Token)(e:Int)(nm:Bool)(off:Int):∀ (a done:List Str) (pre u:Str) (n:Nat),W=done++a->s=pre++u->a.length+1<n->
 iter (Z0b W s l) n ((done.length:Int),(pre.length:Int),e,nm,0,off)=(match docs a u with
  | .ok m=>some (((pre.length+m:Nat):Int),e,nm,0,off)
  | .error (o,c)=>some (((pre.length+o:Nat):Int),e,nm,c,((pre.length+o:Nat):Int)))
 | [],done,pre,u,n,hd,hs,d=>by
   match n,d with
   | n+1,d=>
     show Z0b W s l _ _=_
     have:W.length=done.length:=by rw[hd];simp
     rw[Z0b,G0d (by omega),G1o,Q0a]
     rfl
 | w::a,done,pre,u,n,hd,hs,d=>by
   match n,d with
   | n+2,d=>
     have F:W.length=done.length+(a.length+1):=by rw[hd];simp
     have z:lidx W (done.length:Int)=some w:=by
      rw[lidx,if_pos (by omega),hd]
      simp
     show Z0b W s l _ _=_
     rw[Z0b,G0e (by omega),G0e (p:=(0:Int)=0) rfl,G3o,Q0b,z,G0a]
     have f:=V8l hs q w
     unfold docs
     cases g:doc u.length w u with
     | none=>
       rw[g]at f
       have h':F54 s (pre.length:Int) w=some ([],0,3):=f
       rw[h',G0a]
       dsimp only
       rw[G0d (p:=(3:Int)=0) (by decide),G0q,Q0b,J3q,G0a]
       dsimp only
       refine(X9s s l W n _ _ _ _ (by decide) _).trans ?_
       rfl
     | some m=>
       rw[g]at f
       obtain⟨x,A⟩:=f
       have H:=J7l _ _ _ _ g
       rw[A,G0a]
       dsimp only
       rw[G0e (p:=(0:Int)=0) rfl,G0u,Q0a,Q0f (by omega) (by omega)]
       have h:=X2n q W t l e nm off a (done++[w]) (pre++u.take m) (u.drop m) (n+1) (by rw[hd];simp) (by rw[hs,G0z,G1v]) (by simp at d;omega)
       have C:(pre++u.take m).length=pre.length+m:=by simp;omega
       have E:((done++[w]).length:Int)=(done.length:Int)+1:=by simp
       rw[C,E]at h
       refine G7i h ?_
       cases docs a (u.drop m)with
       | error y=>rcases y with⟨o,c⟩;simp only[G3b]
       | ok k=>simp only[G3b]
theorem V8t{s pre u:Str}(hs:s=pre++u)(d:s.length<=1000000)(e:Int)(nm:Bool)(off:Int)(l:List Token)(a:List Str)(f:a.length<=1000000):F90 s (pre.length:Int) e nm 0 off l a=(match docs a u with
 | .ok m=>some (((pre.length+m:Nat):Int),e,nm,0,off)
 | .error (o,c)=>some (((pre.length+o:Nat):Int),e,nm,c,((pre.length+o:Nat):Int))):=by
 unfold F90
 have h:=X2n d a f l e nm off a [] pre u BIG rfl hs (by unfold BIG;omega)
 rw[show(([]:List Str).length:Int)=0 from rfl]at h
 exact h
theorem K5b(s:Str)(a e:Int)(nm:Bool){c:Int}(f:c≠0)(off:Int)(l:List Token)(d:List Str):F90 s a e nm c off l d=some (a,e,nm,c,off):=by
 obtain⟨n,g⟩:∃n,BIG=n+1:=⟨1180591620717411303423,rfl⟩
 unfold F90
 rw[g]
 exact X9s s l d n 0 a e nm f off
theorem K6t{s:Str}(y:s.length<=1000000)(a e:Int)(nm:Bool)(x off:Int)(l:List Token)(z:List Str):∀ (k:Nat) (t pre:Str) (n:Nat),t.length<=k->s=pre++t->t.length<n->
 ∃f,0<f/\iter (Q7x s a e nm x off l z) n (pre.length:Int)=iter (Q7x s a e nm x off l z) f ((pre.length+blankN t:Nat):Int):=by
 intro k
 induction k with
 | zero=>
   intro t pre n g hs d
   have:t=[]:=G3c.1 (by omega)
   subst this
   exact⟨n,by omega,rfl⟩
 | succ k A=>
   intro t pre n g hs d
   match t,g,hs,d with
   | [],g,hs,d=>exact⟨n,by omega,rfl⟩
   | c::r,g,hs,d=>
     match n,d with
     | n+1,d=>
       have C:s.length=pre.length+(r.length+1):=by rw[hs];simp
       simp only[G0h]at g d
       rcases Z6a c r with⟨p,m⟩|⟨E,rfl,p,m⟩|⟨p,m⟩
       ·obtain⟨f,q,o⟩:=A r (pre++[c]) n (by omega) (by rw[hs];simp) (by omega)
        refine⟨f,q,?_⟩
        show Q7x s _ _ _ _ _ _ _ _ _=_
        rw[Q7x,Z0c hs y,G0a,p,G0e (by decide),Q0b,Q0f (by omega) (by omega)]
        have u:((pre++[c]).length:Int)=(pre.length:Int)+1:=by simp
        rw[u]at o
        rw[o,m]
        congr 2
        simp
        omega
       ·simp only[G0h]at g d C
        obtain⟨f,q,o⟩:=A E (pre++[c,10]) n (by omega) (by rw[hs];simp) (by omega)
        refine⟨f,q,?_⟩
        show Q7x s _ _ _ _ _ _ _ _ _=_
        rw[Q7x,Z0c hs y,G0a,p,G0e (by decide),Q0b,Q0f (by omega) (by omega)]
        have u:((pre++[c,10]).length:Int)=(pre.length:Int)+2:=by simp
        rw[u]at o
        rw[o,m]
        congr 2
        simp
        omega
       exact⟨n+1,by omega,by rw[m];rfl⟩
theorem V8u{s pre t:Str}(hs:s=pre++t)(d:s.length<=1000000)(hb:blankN t=0):F88 s (pre.length:Int)=some 0:=by
 match t,hb with
 | [],hb=>exact K5c (by rw[hs];simp) d
 | c::r,hb=>
   rw[Z0c hs d]
   rcases Z6a c r with⟨a,e⟩|⟨f,rfl,a,e⟩|⟨a,e⟩
   ·omega
   ·omega
   rw[a]
theorem V8s{s pre t:Str}(hs:s=pre++t)(U:2<=t.length)(k:s.length<=1000000)(e:Int)(nm:Bool)(off:Int)(l:List Token)(d:List Str)(V:d.length<=1000000):
 match here pre.length t l d with
 | .ok (l',o,m)=>F91 s (pre.length:Int) e nm 0 off l d=some (((pre.length+m:Nat):Int),-1,nm,0,off,l',o)
 | .error (q,c)=>∃a b I l' o,F91 s (pre.length:Int) e nm 0 off l d=some (a,b,I,c,q,l',o):=by
 have W:s.length=pre.length+t.length:=by rw[hs];simp
 have hb:=Q5b (t.drop 2).length (t.drop 2) (G0o _)
 have z:=Q3s (t.drop 2).length (t.drop 2) (G0o _)
 have J:(t.drop 2).length=t.length-2:=by simp
 have K:s=(pre++t.take 2)++t.drop 2:=by rw[hs,G0z,G1v]
 have L:(pre++t.take 2).length=pre.length+2:=by simp;omega
 obtain⟨g,M,A⟩:=K6t k (pre.length:Int) e nm 0 off l d (t.drop 2).length (t.drop 2) (pre++t.take 2) BIG (G0o _) K (by rw[J];unfold BIG;omega)
 rw[L,show((pre.length+2:Nat):Int)=(pre.length:Int)+2 by omega]at A
 unfold F91 here
 rw[Q0f (by omega) (by omega),A]
 rw[G6r]at z
 generalize blankN (t.drop 2)=b at *
 have C:s=(pre++t.take (2+b))++t.drop (2+b):=by rw[hs,G0z,G1v]
 have O:(pre++t.take (2+b)).length=pre.length+(2+b):=by simp;omega
 have E:=V8u C k z
 have f:=X5o C k
 rw[O]at E f
 match g,M with
 | g+1,_=>
   rw[show pre.length+2+b=pre.length+(2+b)by omega]
   have Q:iter (Q7x s (pre.length:Int) e nm 0 off l d) (g+1) ((pre.length+(2+b):Nat):Int)=Q7x s (pre.length:Int) e nm 0 off l d (iter (Q7x s (pre.length:Int) e nm 0 off l d) g) ((pre.length+(2+b):Nat):Int):=rfl
   rw[Q,Q7x,E,G0a,G0d (by decide),Q0a]
   cases F:wd (t.drop (2+b)).length (t.drop (2+b))with
   | error y=>
     rw[F]at f
     have u:F94 s ((pre.length+(2+b):Nat):Int)=some ⟨[],[],((pre.length+(2+b)+y:Nat):Int),false⟩:=f
     rw[u,G0a]
     dsimp only
     rw[G0q,Q0b,J3q]
     exact⟨_,_,_,_,_,rfl⟩
   | ok y=>
     rcases y with⟨x,q,m⟩
     rw[F]at f
     have u:F94 s ((pre.length+(2+b):Nat):Int)=some ⟨x,q,((pre.length+(2+b)+m:Nat):Int),true⟩:=f
     rw[u,G0a]
     dsimp only
     rw[G0u,Q0a]
     by_cases H:m=0
     ·subst H
      rw[G0e (p:=(((pre.length+(2+b)+0:Nat):Int)=((pre.length+(2+b):Nat):Int))) rfl,Q0b,G0e (p:=0=0) rfl,Q0b,J3q]
      exact⟨_,_,_,_,_,rfl⟩
     rw[G0d (p:=(((pre.length+(2+b)+m:Nat):Int)=((pre.length+(2+b):Nat):Int))) (by omega),Q0a,G0d H,Q0a,Z7c]
     cases X:push l ⟨4,(pre.length:Int),x,q⟩with
     | error y=>
       rcases y with⟨Y,c⟩
       dsimp only
       rw[G0a]
       dsimp only
       rw[Q0n (by simp;omega)]
       exact⟨_,_,_,_,_,rfl⟩
     | ok l1=>
       dsimp only
       rw[G0a]
       dsimp only
       rw[Q0n (by simp;omega),G0a]
       simp only[G3b]
def isD(c:UInt8):Bool:=decide (48<=c.toNat)&&decide (c.toNat<=57)
def two(c d:UInt8):Option Nat:=if c=48 then none else if 10 * (c.toNat-48)+(d.toNat-48)<64 then some 2 else none
def numR:Str->Option Nat
 | []=>none
 | [c]=>if isD c then some 1 else none
 | [c,d]=>if isD c then(if isD d then two c d else some 1)else none
 | c::d::e::_=>if isD c then(if isD d then(if isD e then none else two c d)else some 1)else none
theorem Q5v{c:UInt8}(h:isD c=true):48<=c.toNat/\c.toNat<=57:=by
 unfold isD at h
 simpa using h
theorem X3z{c:UInt8}(h:isD c=true):c=UInt8.ofNat (48+(c.toNat-48)):=by
 obtain⟨a,d⟩:=Q5v h
 rw[show 48+(c.toNat-48)=c.toNat by omega,G4s]
theorem Y5p:((List.range 10).all λi=>match Lib.atoiAll [UInt8.ofNat (48+i)]with|.ok v=>v==(i:Int)|_=>false)=true:=by kernel_rfl
theorem Y5o:((List.range 54).all λi=>match Lib.atoiAll [UInt8.ofNat (48+(i+10) / 10),UInt8.ofNat (48+(i+10) % 10)]with|.ok v=>v==((i+10:Nat):Int)|_=>false)=true:=by kernel_rfl
theorem K4v{n:Nat}(h:n<64):F166 (Lib.decDigits n)=some true:=by
 have e:Z1v (Lib.decDigits n)=some ((n:Int),false):=by
  unfold Z1v
  by_cases a:n<10
  ·have:=G0t.1 Y5p n (G1k.2 a)
   rw[Lib.decDigits_one a,if_pos (by simp)]
   split at this
   ·rename_i v d
    rw[d]
    simp only[G3h]at this
    rw[this]
   cases this
  have:=G0t.1 Y5o (n-10) (G1k.2 (by omega))
  rw[show n-10+10=n by omega]at this
  rw[Lib.decDigits_two a (by omega),if_pos (by simp)]
  split at this
  ·rename_i v d
   rw[d]
   simp only[G3h]at this
   rw[this]
  cases this
 unfold F166
 rw[e,G0a]
 dsimp only
 have f:Q9z (n:Int)=some (Lib.decDigits n):=by
  unfold Q9z
  rw[if_pos ⟨by omega,by omega⟩,G2o]
 rw[f,G0e (p:=(0:Int)<=(n:Int)) (by omega),G0e (p:=(n:Int)<64) (by omega)]
 simp[Q0e]
theorem F67_num{x:Str}(e:x.length<=1000000)(h:F166 x=some true):∃n,n<64/\x=Lib.decDigits n:=by
 unfold F166 at h
 obtain⟨⟨n,b⟩,f,h⟩:=G1n.1 h
 dsimp only at h
 cases a:(!b&&decide (0<=n))&&decide (n<64)with
 | false=>
   rw[a]at h
   simp[Q0e]at h
 | true=>
   rw[a]at h
   simp only[G0k,G0s]at a
   have d:Q9z n=some (Lib.decDigits n.toNat):=by
    unfold Q9z
    rw[if_pos ⟨a.1.2,by omega⟩]
   rw[d]at h
   simp[Q0e]at h
   exact⟨n.toNat,by omega,h.symm⟩
theorem Z1a{i:Nat}(h:i<10):(UInt8.ofNat (48+i)).toNat=48+i:=by
 rw[UInt8.toNat_ofNat']
 omega
theorem J4x{i:Nat}(h:i<10):isD (UInt8.ofNat (48+i))=true:=by
 unfold isD
 rw[Z1a h]
 simp
 omega
theorem X7h{n:Nat}(h:n<64):numR (Lib.decDigits n)=some (Lib.decDigits n).length:=by
 by_cases a:n<10
 ·rw[Lib.decDigits_one a,numR,J4x a]
  rfl
 rw[Lib.decDigits_two a (by omega),numR,J4x (by omega),J4x (by omega),if_pos rfl,if_pos rfl,two,Z1a (by omega),Z1a (by omega),if_neg,if_pos (by omega)]
 ·rfl
 intro e
 have:=G3t UInt8.toNat e
 rw[Z1a (by omega)]at this
 simp at this
 omega
theorem K4w{x:Str}(g:x.length<=1000000):F166 x=some (decide (numR x=some x.length)):=by
 obtain⟨b,hb⟩:=F67_tot x g
 cases b with
 | true=>
   obtain⟨n,f,rfl⟩:=F67_num g hb
   rw[hb,X7h f]
   simp
 | false=>
   rw[hb]
   congr 1
   refine(G0d λh=>?_).symm
   have hd:∃n,n<64/\x=Lib.decDigits n:=by
    match x,h with
    | [c],h=>
      rw[numR]at h
      split at h
      ·rename_i a
       obtain⟨k,l⟩:=Q5v a
       exact⟨c.toNat-48,by omega,by rw[Lib.decDigits_one (by omega),<-X3z a]⟩
      cases h
    | [c,d],h=>
      rw[numR]at h
      split at h
      ·rename_i a
       split at h
       ·rename_i hd
        obtain⟨k,l⟩:=Q5v a
        obtain⟨p,q⟩:=Q5v hd
        unfold two at h
        split at h
        ·cases h
        rename_i m
        split at h
        ·rename_i o
         have s:c.toNat≠48:=λe=>m (by rw[<-G4s (x:=c),e];rfl)
         refine⟨10 * (c.toNat-48)+(d.toNat-48),o,?_⟩
         rw[Lib.decDigits_two (by omega) (by omega)]
         rw[show(10 * (c.toNat-48)+(d.toNat-48)) / 10=c.toNat-48 by omega,show(10 * (c.toNat-48)+(d.toNat-48)) % 10=d.toNat-48 by omega,<-X3z a,<-X3z hd]
        cases h
       simp at h
      cases h
    | c::d::e::r,h=>
      rw[numR]at h
      split at h
      ·split at h
       ·split at h
        ·cases h
        unfold two at h
        split at h
        ·cases h
        split at h
        ·simp at h
        cases h
       simp at h
      cases h
   obtain⟨n,f,rfl⟩:=hd
   rw[K4v f]at hb
   cases hb
def hd0:Str->Bool
 | []=>false
 | c::_=>isD c
theorem J0g{y:Str}(a:hd0 y=false):∀x:Str,(numR x=some x.length->numR (x++y)=some x.length)/\(numR x≠some x.length->numR (x++y)=none\/∃k,k<x.length/\numR (x++y)=some k)
 | []=>by
   refine⟨λh=>by simp[numR]at h,λ_=>.inl ?_⟩
   match y,a with
   | [],_=>rfl
   | [c],a=>simp only[hd0]at a;simp[numR,a]
   | [c,d],a=>simp only[hd0]at a;simp[numR,a]
   | c::d::e::r,a=>simp only[hd0]at a;simp[numR,a]
 | [c]=>by
   have g:numR (c::y)=if isD c then some 1 else none:=by
    match y,a with
    | [],_=>rfl
    | [d],a=>simp only[hd0]at a;simp[numR,a]
    | d::e::r,a=>simp only[hd0]at a;simp[numR,a]
   show(numR [c]=some 1->numR (c::y)=some 1)/\(numR [c]≠some 1->numR (c::y)=none\/∃k,k<1/\numR (c::y)=some k)
   rw[g]
   simp only[numR]
   cases isD c<;>simp
 | [c,d]=>by
   have g:numR (c::d::y)=if isD c then(if isD d then two c d else some 1)else none:=by
    match y,a with
    | [],_=>rfl
    | e::r,a=>simp only[hd0]at a;simp[numR,a]
   show(numR [c,d]=some 2->numR (c::d::y)=some 2)/\(numR [c,d]≠some 2->numR (c::d::y)=none\/∃k,k<2/\numR (c::d::y)=some k)
   rw[g]
   simp only[numR]
   cases isD c<;>cases isD d<;>simp
   unfold two
   split
   ·simp
   split<;>simp
 | c::d::e::r=>by
   have g:numR (c::d::e::r++y)=numR (c::d::e::r):=rfl
   rw[g]
   refine⟨λh=>h,λh=>?_⟩
   cases f:numR (c::d::e::r)with
   | none=>exact .inl rfl
   | some k=>
     refine .inr ⟨k,?_,rfl⟩
     rw[numR]at f
     split at f
     ·split at f
      ·split at f
       ·cases f
       unfold two at f
       split at f
       ·cases f
       split at f
       ·injection f with f;simp;omega
       cases f
      injection f with f;simp;omega
     cases f
theorem V9e{n:Int}(a:0<=n)(d:n<256):IntKind.wrap .u8 n=n:=by
 show n % 256=n
 omega
theorem K7c(c:UInt8):(decide (48<=B c)&&decide (B c<=57))=isD c:=by
 unfold isD B
 congr 1
 ·exact G5m.2 (by omega)
 exact G5m.2 (by omega)
theorem Z9w{s pre:Str}{d:Str}{c:UInt8}{r:Str}(hs:s=pre++(d++c::r)):sidx s ((pre.length+d.length:Nat):Int)=some (B c):=by
 have h:=Q0u (pre++d) c r
 rw[G0z,<-hs,G0i]at h
 exact h
theorem X0x{s pre d:Str}{c:UInt8}{r:Str}(hs:s=pre++(d++c::r))(g:s.length<=1000000)(a:isD c=true)(hd:d.length<3)(v:Nat)(k:v<=1000)(n:Nat):
 iter (Q6m s (pre.length:Int)) (n+1) ((v:Int),((pre.length+d.length:Nat):Int))=iter (Q6m s (pre.length:Int)) n (((10 * v+(c.toNat-48):Nat):Int),((pre.length+d.length+1:Nat):Int)):=by
 have l:s.length=pre.length+(d.length+(r.length+1)):=by rw[hs];simp
 obtain⟨m,o⟩:=Q5v a
 have e:B c=(c.toNat:Int):=rfl
 have f:IntKind.wrap .u8 ((c.toNat:Int)-48)=(c.toNat:Int)-48:=V9e (by omega) (by omega)
 show Q6m s _ _ _=_
 rw[Q6m,G0e (p:=((pre.length+d.length:Nat):Int)<(s.length:Int)) (by omega),Z9w hs]
 simp only[Q0e,Q0b,G0a,G1i]
 rw[K7c,a,Q0f (n:=(pre.length:Int)+3) (by omega) (by omega),G0e (p:=((pre.length+d.length:Nat):Int)<(pre.length:Int)+3) (by omega)]
 simp only[G3o,Q0b,e,f]
 rw[Q0f (n:=(c.toNat:Int)-48) (by omega) (by omega),Q0f (n:=10 * (v:Int)) (by omega) (by omega),Q0f (by omega) (by omega),Q0f (by omega) (by omega)]
 congr 2
 omega
theorem X7z{s pre d t:Str}(hs:s=pre++(d++t))(A:s.length<=1000000)(f:hd0 t=false\/3<=d.length)(v:Nat)(n:Nat)(C:d.length<=3)(c0:UInt8)(m:d≠[]->s[pre.length]?=some c0):
 iter (Q6m s (pre.length:Int)) (n+1) ((v:Int),((pre.length+d.length:Nat):Int))=some (if d=[]\/64<=v\/(1<d.length/\c0=48)then -1 else((pre.length+d.length:Nat):Int)):=by
 have e:s.length=pre.length+(d.length+t.length):=by rw[hs];simp
 show Q6m s _ _ _=_
 have o:∃x,(Q0e (decide (((pre.length+d.length:Nat):Int)<(s.length:Int))) (sidx s ((pre.length+d.length:Nat):Int)))=some x/\
  (((decide (((pre.length+d.length:Nat):Int)<(s.length:Int))&&decide (48<=x))&&decide (x<=57))&&decide (((pre.length+d.length:Nat):Int)<(pre.length:Int)+3))=false:=by
  match t,f,hs,e with
  | [],f,hs,e=>
    rw[G0d (by simp at e;omega)]
    exact⟨_,rfl,rfl⟩
  | c::r,f,hs,e=>
    rw[G0e (by simp at e;omega),Z9w hs]
    refine⟨B c,rfl,?_⟩
    rw[G1i,K7c]
    rcases f with h|h
    ·have:isD c=false:=h
     rw[this]
     rfl
    rw[G0d (by omega),G2d]
 obtain⟨x,q,u⟩:=o
 rw[Q6m,q,G0a,Q0f (n:=(pre.length:Int)+3) (by omega) (by omega),u,Q0a,Q0f (n:=(pre.length:Int)+1) (by omega) (by omega)]
 by_cases a:d=[]
 ·subst a
  rw[G0e (p:=((pre.length+([]:Str).length:Nat):Int)=(pre.length:Int)) (by simp)]
  simp[Q0e]
 have E:1<=d.length:=G4a.2 a
 rw[G0d (p:=((pre.length+d.length:Nat):Int)=(pre.length:Int)) (by omega)]
 by_cases g:64<=v
 ·rw[G0e (p:=(64:Int)<=(v:Int)) (by omega)]
  simp[Q0e,g]
 rw[G0d (p:=(64:Int)<=(v:Int)) (by omega)]
 by_cases k:1<d.length
 ·have y:sidx s (pre.length:Int)=some (B c0):=by
   rw[Z4o,m a]
   rfl
  have z:decide (B c0=48)=decide (c0=48):=Q2c c0 48
  rw[G0e (p:=(pre.length:Int)+1<((pre.length+d.length:Nat):Int)) (by omega),y]
  simp only[Bool.or_self,G0q,G3o,Q0e,Q0b,G0a,G1i,G1p,z]
  by_cases l:c0=48
  ·simp[l,a,g,k]
  simp[l,a,g]
 rw[G0d (p:=(pre.length:Int)+1<((pre.length+d.length:Nat):Int)) (by omega)]
 simp[Q0e,a,g,k]
def ansM(p:Nat):Option Nat->Int
 | some m=>((p+m:Nat):Int)
 | none=>-1
theorem K0v{s pre t:Str}(hs:s=pre++t)(m:s.length<=1000000):F170 s (pre.length:Int)=some (ansM pre.length (numR t)):=by
 obtain⟨n,u⟩:∃n,BIG=n+4:=⟨1180591620717411303420,rfl⟩
 unfold F170
 rw[u]
 have z:∀ {α:Type} (f:Int×Int->α),f (0,(pre.length:Int))=f (((0:Nat):Int),((pre.length+([]:Str).length:Nat):Int)):=λf=>by simp
 rw[z (iter (Q6m s (pre.length:Int)) (n+4))]
 have hat:∀c r,t=c::r->s[pre.length]?=some c:=by
  intro c r h
  rw[hs,h]
  simp
 cases a:hd0 t with
 | false=>
   rw[X7z (d:=[]) (t:=t) hs m (.inl a) 0 (n+3) (by simp) 0 (λh=>absurd rfl h),if_pos (.inl rfl)]
   have:numR t=none:=by
    match t,a with
    | [],_=>rfl
    | [c],a=>simp only[hd0]at a;simp[numR,a]
    | [c,d],a=>simp only[hd0]at a;simp[numR,a]
    | c::d::e::r,a=>simp only[hd0]at a;simp[numR,a]
   rw[this]
   rfl
 | true=>
   match t,a,hs,hat with
   | c::r,a,hs,hat=>
     have k:isD c=true:=a
     obtain⟨F,H⟩:=Q5v k
     rw[X0x (d:=[]) hs m k (by simp) 0 (by omega) (n+3)]
     have y:pre.length+([]:Str).length+1=pre.length+[c].length:=rfl
     rw[y]
     cases g:hd0 r with
     | false=>
       rw[X7z (d:=[c]) (t:=r) hs m (.inl g) _ (n+2) (by simp) c (λ_=>hat c r rfl),if_neg (by simp;omega)]
       have:numR (c::r)=some 1:=by
        match r,g with
        | [],_=>simp[numR,k]
        | [d],g=>simp only[hd0]at g;simp[numR,k,g]
        | d::e::r,g=>simp only[hd0]at g;simp[numR,k,g]
       rw[this]
       rfl
     | true=>
       match r,g,hs,hat with
       | d::r,g,hs,hat=>
         have hd:isD d=true:=g
         obtain⟨I,J⟩:=Q5v hd
         rw[X0x (d:=[c]) hs m hd (by simp) _ (by omega) (n+2)]
         have A:pre.length+[c].length+1=pre.length+[c,d].length:=rfl
         rw[A]
         have C:c=48↔c.toNat=48:=⟨λe=>by rw[e];rfl,λe=>by rw[<-G4s (x:=c),e];rfl⟩
         cases l:hd0 r with
         | false=>
           rw[X7z (d:=[c,d]) (t:=r) hs m (.inl l) _ (n+1) (by simp) c (λ_=>hat c (d::r) rfl)]
           have:numR (c::d::r)=two c d:=by
            match r,l with
            | [],_=>simp[numR,k,hd]
            | e::r,l=>simp only[hd0]at l;simp[numR,k,hd,l]
           rw[this]
           unfold two
           by_cases o:c=48
           ·rw[if_pos o,if_pos (.inr (.inr ⟨by simp,o⟩))]
            rfl
           rw[if_neg o]
           by_cases q:10 * (c.toNat-48)+(d.toNat-48)<64
           ·rw[if_pos q,if_neg (by simp[o];omega)]
            rfl
           rw[if_neg q,if_pos (.inr (.inl (by omega)))]
           rfl
         | true=>
           match r,l,hs,hat with
           | e::r,l,hs,hat=>
             have p:isD e=true:=l
             obtain⟨K,L⟩:=Q5v p
             rw[X0x (d:=[c,d]) hs m p (by simp) _ (by omega) (n+1)]
             have E:pre.length+[c,d].length+1=pre.length+[c,d,e].length:=rfl
             rw[E,X7z (d:=[c,d,e]) (t:=r) hs m (.inr (by simp)) _ n (by simp) c (λ_=>hat c (d::e::r) rfl)]
             have:numR (c::d::e::r)=none:=by simp[numR,k,hd,p]
             rw[this,if_pos]
             ·rfl
             by_cases o:c=48
             ·exact .inr (.inr ⟨by simp,o⟩)
             have:c.toNat≠48:=λe=>o (C.2 e)
             exact .inr (.inl (by omega))
def chk(r:Str)(k:Nat):Option Nat:=if r[k]?=some 93 then some (k+1)else none
def refB(r:Str)(a:Bool):Option Nat:=
 match numR r with
 | none=>none
 | some m=>if r[m]?=some 61/\a=true then(match r[m+1]? with
    | some c=>if c=93 then chk r (m+1)else(match numR (r.drop (m+1))with
      | none=>none
      | some k=>chk r (m+1+k))
    | none=>chk r (m+1))
   else chk r m
theorem X1h{s pre r:Str}{k:Nat}(hs:s=pre++r):sidx s ((pre.length+k:Nat):Int)=(r[k]?).map B:=by
 rw[Z4o,hs,G0m (by omega),show pre.length+k-pre.length=k by omega]
 rfl
theorem Y0g{s pre r:Str}(hs:s=pre++r)(d:s.length<=1000000)(k:Nat):Q7u s ((pre.length+k:Nat):Int)=some (ansM pre.length (chk r k)):=by
 have e:s.length=pre.length+r.length:=by rw[hs];simp
 unfold Q7u chk
 rw[G0d (p:=((pre.length+k:Nat):Int)<0) (by omega)]
 by_cases hk:k<r.length
 ·rw[G0d (p:=(s.length:Int)<=((pre.length+k:Nat):Int)) (by omega),X1h hs,G0c hk]
  have a:decide (B r[k]=93)=decide (r[k]=93):=Q2c r[k] 93
  simp only[Bool.or_self,G0q,Q0e,Q0b,G0w,G0a,G1p,a]
  by_cases h:r[k]=93
  ·rw[G0e h,if_pos (by rw[h]),G0u,Q0a,Q0f (by omega) (by omega)]
   rfl
  rw[G0d h,if_neg (by simpa using h)]
  rfl
 rw[G0e (p:=(s.length:Int)<=((pre.length+k:Nat):Int)) (by omega),if_neg (by rw[G1a (by omega)];simp)]
 simp[Q0e,ansM]
theorem X9p(s:Str):Q7u s (-1)=some (-1):=by
 unfold Q7u
 simp[Q0e]
theorem K2r{t:Str}{m:Nat}(h:numR t=some m):m<=t.length:=by
 match t,h with
 | [],h=>simp[numR]at h
 | [c],h=>
   rw[numR]at h
   split at h
   ·injection h with h;simp;omega
   cases h
 | [c,d],h=>
   rw[numR]at h
   split at h
   ·split at h
    ·unfold two at h
     split at h
     ·cases h
     split at h
     ·injection h with h;simp;omega
     cases h
    injection h with h;simp;omega
   cases h
 | c::d::e::r,h=>
   rw[numR]at h
   split at h
   ·split at h
    ·split at h
     ·cases h
     unfold two at h
     split at h
     ·cases h
     split at h
     ·injection h with h;simp;omega
     cases h
    injection h with h;simp;omega
   cases h
theorem V8k{s pre:Str}{r:Str}(hs:s=pre++91::r)(o:s.length<=1000000)(e:Bool):F137 s (pre.length:Int) e=some (ansM (pre.length+1) (refB r e)):=by
 have K:s.length=pre.length+(r.length+1):=by rw[hs];simp
 have q:s=(pre++[91])++r:=by rw[hs];simp
 have t:(pre++[91]).length=pre.length+1:=by simp
 have f:=K0v q o
 rw[t]at f
 unfold F137 refB
 rw[Q0f (by omega) (by omega),show(pre.length:Int)+1=((pre.length+1:Nat):Int)by omega]
 cases u:numR r with
 | none=>
   rw[u]at f
   have a:F170 s ((pre.length+1:Nat):Int)=some (-1):=f
   rw[a,G0a,G0d (p:=(0:Int)<=-1) (by decide)]
   simp only[G1o,Q0e,Q0a,G0a]
   exact X9p s
 | some m=>
   have L:=K2r u
   rw[u]at f
   have a:F170 s ((pre.length+1:Nat):Int)=some ((pre.length+1+m:Nat):Int):=f
   rw[a,G0a,G0e (p:=(0:Int)<=((pre.length+1+m:Nat):Int)) (by omega),G1i]
   dsimp only
   have d:=λk=>Y0g q o k
   simp only[t]at d
   have x:=λk=>X1h (k:=k) q
   simp only[t]at x
   by_cases hk:m<r.length
   ·rw[G0e (p:=((pre.length+1+m:Nat):Int)<(s.length:Int)) (by omega),x,G0c hk]
    have A:decide (B r[m]=61)=decide (r[m]=61):=Q2c r[m] 61
    simp only[Q0e,Q0b,G0w,G0a,G1i,A]
    by_cases g:r[m]=61/\e=true
    ·rw[G0e g.1,g.2,G3o,Q0b,if_pos ⟨by rw[g.1],rfl⟩,Q0f (by omega) (by omega),show((pre.length+1+m:Nat):Int)+1=((pre.length+1+(m+1):Nat):Int)by omega]
     by_cases C:m+1<r.length
     ·rw[G0e (p:=((pre.length+1+(m+1):Nat):Int)<(s.length:Int)) (by omega),x,G0c C]
      have E:decide (B r[m+1]=93)=decide (r[m+1]=93):=Q2c r[m+1] 93
      simp only[Q0b,G0w,G0a,G1i,E]
      by_cases l:r[m+1]=93
      ·rw[G0e l,if_pos l,G0u,Q0a,d]
      rw[G0d l,if_neg l,G0q,Q0b]
      have F:s=(pre++91::r.take (m+1))++r.drop (m+1):=by rw[hs];simp
      have H:(pre++91::r.take (m+1)).length=pre.length+1+(m+1):=by simp;omega
      have a:=K0v F o
      rw[H]at a
      cases z:numR (r.drop (m+1))with
      | none=>
        rw[z]at a
        have y:F170 s ((pre.length+1+(m+1):Nat):Int)=some (-1):=a
        rw[y]
        exact X9p s
      | some k=>
        rw[z]at a
        have y:F170 s ((pre.length+1+(m+1):Nat):Int)=some ((pre.length+1+(m+1)+k:Nat):Int):=a
        rw[y,G0a]
        rw[show((pre.length+1+(m+1)+k:Nat):Int)=((pre.length+1+(m+1+k):Nat):Int)by omega,d]
     rw[G0d (p:=((pre.length+1+(m+1):Nat):Int)<(s.length:Int)) (by omega),G1a (by omega)]
     simp only[Q0a,G0a,G1o]
     rw[d]
    have I:(decide (r[m]=61)&&e)=false:=by
     cases e
     ·simp
     simpa using g
    rw[I,Q0a,d,if_neg (by simpa using g)]
   rw[G0d (p:=((pre.length+1+m:Nat):Int)<(s.length:Int)) (by omega)]
   have J:r[m]?=none:=G1a (by omega)
   simp only[Q0e,Q0a,G0a,G1o]
   rw[d,if_neg (by rw[J];simp)]
theorem K4y{a:Str}(w:Str)(d:Bool)(g:(93:UInt8)∉a)(o:a.length<=1000000):F125 (91::(a++93::w)) d=((F166 (Lib.cut a [61]).1).bind λf=>
 (Q0e (((f&&(Lib.cut a [61]).2.2)&&d)&&!decide ((Lib.cut a [61]).2.1=[])) (F166 (Lib.cut a [61]).2.1)).bind λk=>
 (bif (!f||((Lib.cut a [61]).2.2&&(!d||(!decide ((Lib.cut a [61]).2.1=[])&&!k))))then some 0 else some ((a.length+2:Nat):Int))):=by
 have l:(93:Int).toNat.toUInt8=93:=by decide
 have m:=indexByte_at 93 w (91::a) (by simp only[G1q,not_or];exact⟨by decide,g⟩)
 have hs:Q0m (91::(a++93::w)) 1 ((91::a).length:Int)=some a:=sslice_part [91] a (93::w)
 unfold F125
 rw[Q0h,G0a,l]
 rw[show(91::(a++93::w):Str)=(91::a)++93::w from rfl,m,G0d (by omega),Q0a]
 rw[show((91::a)++93::w:Str)=91::(a++93::w) from rfl,hs,G0a,Z4k,if_pos (by omega),G0a]
 rw[Q0f (by omega) (by simp;omega)]
 have e:((91::a).length:Int)+1=((a.length+2:Nat):Int):=by simp;omega
 rw[e]
theorem Z3r{t:Str}{a:Bool}{k:Nat}(h:F125 t a=some (k:Int)):brk t a=k:=by
 unfold brk
 rw[h]
 simp
theorem K3x(r:Str)(l:Bool)(L:r.length<=1000000):brk (91::r) l=(match refB r l with
 | some k=>k+1
 | none=>0):=by
 rcases firstOf 93 r with h|⟨a,w,s,rfl⟩
 ·have m:∀k,chk r k=none:=by
   intro k
   unfold chk
   rw[if_neg]
   intro e
   exact h (G0r e)
  have:refB r l=none:=by
   unfold refB
   split
   ·rfl
   split
   ·split
    ·split
     ·exact m _
     split
     ·rfl
     exact m _
    exact m _
   exact m _
  rw[this]
  exact Z3r (k:=0) (F51_free l h)
 have o:a.length<=1000000:=by simp at L;omega
 have at_:∀k,k<a.length->((a++93::w)[k]?≠some 93):=by
  intro k hk e
  rw[G0l hk]at e
  exact s (G0r e)
 have q:∀k,k<a.length->chk (a++93::w) k=none:=λk hk=>if_neg (at_ k hk)
 have t:chk (a++93::w) a.length=some (a.length+1):=by
  unfold chk
  rw[if_pos]
  simp
 have d:=K4y w l s o
 rcases firstOf 61 a with J|⟨x,y,K,rfl⟩
 ·
  rw[cut_free J]at d
  simp only[G2d,G1o,Q0e,Q0a,G0a,G2n]at d
  rw[K4w o,G0a]at d
  obtain⟨u,H⟩:=J0g (y:=93::w) rfl a
  by_cases g:numR a=some a.length
  ·rw[G0e g,G0u,Q0a]at d
   rw[Z3r d]
   unfold refB
   rw[u g]
   have:¬ ((a++93::w)[a.length]?=some 61/\l=true):=by simp
   simp only[if_neg this,t]
  rw[G0d g,G0q,Q0b]at d
  rw[Z3r (k:=0) d]
  unfold refB
  rcases H g with e|⟨k,hk,e⟩
  ·rw[e]
  rw[e]
  have:¬ ((a++93::w)[k]?=some 61/\l=true):=by
   rintro⟨e,_⟩
   rw[G0l hk]at e
   exact J (G0r e)
  simp only[if_neg this,q k hk]
 
 have M:x.length<=1000000:=by simp at o;omega
 have A:y.length<=1000000:=by simp at o;omega
 rw[cut_at y K]at d
 have f:(x++61::y)++93::w=x++61::(y++93::w):=by simp
 obtain⟨u,H⟩:=J0g (y:=61::(y++93::w)) rfl x
 rw[K4w M,K4w A]at d
 have C:x.length<(x++61::y).length:=by simp
 by_cases g:numR x=some x.length
 ·rw[G0e g,G0a]at d
  have E:((x++61::y)++93::w)[x.length]?=some 61:=by rw[f];simp
  cases l with
  | false=>
    simp only[G1i,G2d,G1o,Q0e,Q0a,G0a,G0u,G0q,G3d,G5r,Q0b]at d
    rw[Z3r (k:=0) d]
    unfold refB
    rw[f,u g,<-f]
    simp only[G2z,and_false,G2i]
    rw[q _ C]
  | true=>
    unfold refB
    rw[f,u g,<-f]
    simp only[E,and_self,if_true]
    match y,A,d,f,s,o,at_,q,t,C,E with
    | [],A,d,f,s,o,at_,q,t,C,E=>
      simp only[G1i,G4n,G0u,G1o,Q0e,Q0a,G0a,G2n,G1p,G3o]at d
      have I:(x++[61]).length=x.length+1:=by simp
      have m:((x++[61])++93::w)[x.length+1]?=some 93:=by simp
      rw[m]
      simp only[if_true]
      rw[<-I,t,Z3r d]
    | z::y,A,d,f,s,o,at_,q,t,C,E=>
      have O:z≠93:=λe=>s (by rw[e];simp)
      have m:((x++61::z::y)++93::w)[x.length+1]?=some z:=by rw[f];simp
      rw[m]
      simp only[if_neg O]
      have Q:((x++61::z::y)++93::w).drop (x.length+1)=(z::y)++93::w:=by rw[f];simp
      rw[Q]
      rw[G0d (p:=z::y=[]) (by simp)]at d
      simp only[G1i,G0q,Q0e,Q0b,G0a,G0u,G1p]at d
      obtain⟨g1,U⟩:=J0g (y:=93::w) rfl (z::y)
      have I:(x++61::z::y).length=x.length+1+(z::y).length:=by simp;omega
      by_cases F:numR (z::y)=some (z::y).length
      ·rw[G0e F,G0u,Q0a]at d
       rw[g1 F]
       simp only[]
       rw[<-I,t,Z3r d]
      rw[G0d F,G0q,Q0b]at d
      rw[Z3r (k:=0) d]
      rcases U F with e|⟨k,hk,e⟩
      ·rw[e]
      rw[e]
      simp only[]
      rw[q _ (by omega)]
 rw[G0d g,G0a]at d
 simp only[G1o,Q0e,Q0a,G0a,G0q,G3d,Q0b]at d
 rw[Z3r (k:=0) d]
 unfold refB
 rcases H g with e|⟨k,hk,e⟩
 ·rw[f,e]
 rw[f,e,<-f]
 have V:k<(x++61::y).length:=by omega
 have:¬ (((x++61::y)++93::w)[k]?=some 61/\l=true):=by
  rintro⟨e,_⟩
  rw[f,G0l hk]at e
  exact K (G0r e)
 simp only[if_neg this,q k V]
theorem X2d{s pre u:Str}(hs:s=pre++u)(f:s.length<=1000000)(d:Bool):((Q0e (decide ((pre.length:Int)<(s.length:Int))) (sidx s (pre.length:Int))).bind λg=>
 bif (decide ((pre.length:Int)<(s.length:Int))&&decide (g=91))then(F137 s (pre.length:Int) d).bind λl=>some l else some (pre.length:Int))=
 some (if ([91]:Str).isPrefixOf u=true then(if brk u d=0 then -1 else((pre.length+brk u d:Nat):Int))else(pre.length:Int)):=by
 have a:s.length=pre.length+u.length:=by rw[hs];simp
 match u,hs,a with
 | [],hs,a=>
   rw[G0d (by simp at a;omega)]
   simp[Q0e]
 | c::r,hs,a=>
   have m:sidx s (pre.length:Int)=some (B c):=by rw[hs];exact Q0u pre c r
   have o:decide (B c=91)=decide (c=91):=Q2c c 91
   rw[G0e (by simp at a;omega),m]
   simp only[Q0e,Q0b,G0a,G1i,o]
   have p:([91]:Str).isPrefixOf (c::r)=decide (c=91):=by
    rw[Q0p]
    cases r<;>simp
   rw[p]
   by_cases e:c=91
   ·subst e
    rw[G0e rfl,Q0b,if_pos rfl,V8k hs f,G0a,K3x r d (by simp at a;omega)]
    cases refB r d with
    | none=>rfl
    | some k=>
      simp only[ansM]
      rw[if_neg (by omega)]
      congr 2
      omega
   rw[G0d e,Q0a,if_neg (by simp)]
def symN(p:Nat):Except Nat Str->Int
 | .ok w=>((p+w.length:Nat):Int)
 | .error _=>-1
def X6q(c:UInt8):Str->Str
 | []=>[]
 | d::_=>[c,d]
theorem X0i(a b c:UInt8)(r:Str):decide (X6q c r=[a,b])=([a,b]:Str).isPrefixOf (c::r):=by
 match r with
 | []=>
   rw[Q0p,Z0j,G2d]
   simp[X6q]
 | d::r=>
   rw[X6q]
   rw[Q0p,Q0p]
   have:([]:Str).isPrefixOf r=true:=by cases r<;>rfl
   rw[this,G2x,<-Bool.decide_and]
   exact G5m.2 (by simp)
def X4t:Str:=[59,38,124,40,41,123,125,60,62,61,94,96,36,33,64]
theorem V9k:∀c:UInt8,X4t.contains c=(START.contains c||([60,62,124]:Str).contains c)/\(START.contains c=true->([60,62,124]:Str).contains c=false/\c≠62):=by
 intro c
 have:∀k:Fin 256,X4t.contains (UInt8.ofNat k.val)=(START.contains (UInt8.ofNat k.val)||([60,62,124]:Str).contains (UInt8.ofNat k.val))/\(START.contains (UInt8.ofNat k.val)=true->([60,62,124]:Str).contains (UInt8.ofNat k.val)=false/\UInt8.ofNat k.val≠62):=by decide +kernel
 have h:=this ⟨c.toNat,G7d c⟩
 rwa [G4s]at h
theorem Z9u{w t:Str}{e:List Str}(h:w.isPrefixOf t=true)(g:t.length<=1000000)(p:Nat):symN p (symB (w::e) t)=if ([91]:Str).isPrefixOf (t.drop w.length)=true then(if brk (t.drop w.length) (!decide (w=[124]))=0 then -1 else((p+w.length+brk (t.drop w.length) (!decide (w=[124])):Nat):Int))else((p+w.length:Nat):Int):=by
 obtain⟨u,d⟩:=G2c.1 h
 have hd:t.drop w.length=u:=by rw[<-d];simp
 have a:t.length=w.length+u.length:=by rw[<-d];simp
 unfold symB
 rw[h,Q0b,hd]
 cases hb:([91]:Str).isPrefixOf u with
 | false=>rw[Q0a,if_neg (by decide)];rfl
 | true=>
   rw[Q0b,if_pos rfl]
   match u,hb,a with
   | c::r,hb,a=>
     have f:c=91:=by
      rw[Q0p,G0k,G0s]at hb
      exact hb.1
     subst f
     obtain⟨_,k⟩:=K0y r (!decide (w=[124])) (by simp at a;omega)
     split
     ·rfl
     simp only[symN,G1h]
     rw[a]
     congr 1
     omega
theorem V8r{s pre:Str}{c:UInt8}{r:Str}(hs:s=pre++c::r)(o:s.length<=1000000):F92 s (pre.length:Int)=some (symN pre.length (sym (c::r))):=by
 have g:s.length=pre.length+(r.length+1):=by rw[hs];simp
 have F:sidx s (pre.length:Int)=some (B c):=by rw[hs];exact Q0u pre c r
 have H:F92 s (pre.length:Int)=Z8z (pre.length:Int) s (X6q c r):=by
  unfold F92
  rw[Q0f (by omega) (by omega)]
  match r,hs,g with
  | [],hs,g=>rw[G0d (by simp at g;omega),Q0a];rfl
  | d::r,hs,g=>
    rw[G0e (by simp at g;omega),Q0b]
    have h:=sslice_part pre [c,d] r
    have e:pre++[c,d]++r=s:=by rw[hs];simp
    rw[e]at h
    have I:((pre++[c,d]).length:Int)=(pre.length:Int)+2:=by simp
    rw[I]at h
    rw[h,G0a]
    rfl
 rw[H,Z8z]
 simp only[X0i]
 rw[Q0f (n:=(pre.length:Int)+2) (by omega) (by omega),Q0f (n:=(pre.length:Int)+1) (by omega) (by omega),F]
 unfold sym
 simp only[symA]
 cases W:([38,38]:Str).isPrefixOf (c::r)with
 | true=>rw[G3d,G3d,Q0b,Q0b];rfl
 | false=>
   rw[G1p,Q0a]
   cases X:([124,124]:Str).isPrefixOf (c::r)with
   | true=>rw[G3d,Q0b,Q0b];rfl
   | false=>
     rw[G1p,Q0a]
     cases Y:([36,35]:Str).isPrefixOf (c::r)with
     | true=>rw[Q0b,Q0b];rfl
     | false=>
       rw[Q0a,Q0a,G0a]
       have y:=X5l c X4t (by decide)
       have J:=X5l c [60,62,124] (by decide)
       unfold X4t at y
       rw[y,G0a,J]
       have g15:=V9k c
       unfold X4t at g15
       rw[g15.1]
       have k:∀q:Str,([]:Str).isPrefixOf q=true:=λq=>by cases q<;>rfl
       have p:([62]:Str).isPrefixOf (c::r)=decide (c=62):=by rw[Q0p,k,G2x]
       have t:([60]:Str).isPrefixOf (c::r)=decide (c=60):=by rw[Q0p,k,G2x]
       have z:([124]:Str).isPrefixOf (c::r)=decide (c=124):=by rw[Q0p,k,G2x]
       have K:decide (B c=124)=decide (c=124):=Q2c c 124
       cases hS:START.contains c with
       | true=>
         obtain⟨L,u⟩:=g15.2 hS
         have a:([62,62]:Str).isPrefixOf (c::r)=false:=by rw[Q0p,G0d u,G1o]
         rw[G3d,G0u,Q0a,G0a,L,a]
         simp only[G1o,Q0e,Q0a,G0a,Q0b]
         rfl
       | false=>
         rw[G1p,Q0a]
         have A:s=(pre++[c])++r:=by rw[hs];simp
         have n1:(pre++[c]).length=pre.length+1:=by simp
         cases C:([60,62,124]:Str).contains c with
         | false=>
           have l:c≠60/\c≠62/\c≠124:=by simpa using C
           rw[G0q,Q0b]
           simp only[symB]
           rw[p,t,z,G0d l.1,G0d l.2.1,G0d l.2.2,Q0p,G0d l.2.1,G1o,Q0a,Q0a,Q0a,Q0a]
           simp[symN]
         | true=>
           rw[G0u,Q0a,G0a]
           simp only[G1i]
           by_cases m:c=62
           ·subst m
            rw[show(!decide (B (62:UInt8)=124))=true by decide]
            cases a:([62,62]:Str).isPrefixOf (62::r)with
            | true=>
              rw[Q0b]
              rw[Q0p]at a
              match r,a,hs with
              | d::r,a,hs=>
                have hd:d=62:=by
                 rw[Q0p]at a
                 simp at a
                 exact a
                subst hd
                have M:s=(pre++[62,62])++r:=by rw[hs];simp
                have O:((pre++[62,62]).length:Int)=(pre.length:Int)+2:=by simp
                have f:=X2d M o true
                rw[O]at f
                rw[f,Z9u (w:=[62,62]) (by rw[Q0p,Q0p,k];rfl) (by simp at g |-;omega)]
                simp
            | false=>
              rw[Q0a]
              have f:=X2d A o true
              have u:((pre++[62]).length:Int)=(pre.length:Int)+1:=by simp
              rw[u]at f
              rw[f]
              have x:symB [[62,62],[62],[60],[124]] (62::r)=symB [[62],[60],[124]] (62::r):=by rw[symB,a,Q0a]
              rw[x,Z9u (w:=[62]) (by rw[p];rfl) (by simp;omega)]
              simp
           have a:([62,62]:Str).isPrefixOf (c::r)=false:=by rw[Q0p,G0d m,G1o]
           rw[a,Q0a]
           have f:=X2d A o (!decide (c=124))
           have Q:((pre++[c]).length:Int)=(pre.length:Int)+1:=by simp
           rw[Q]at f
           rw[K,f]
           have x:symB [[62,62],[62],[60],[124]] (c::r)=symB [[60],[124]] (c::r):=by rw[symB,a,Q0a,symB,p,G0d m,Q0a]
           rw[x]
           by_cases E:c=60
           ·subst E
            rw[Z9u (w:=[60]) (by rw[t];rfl) (by simp;omega)]
            simp
           have U:c=124:=by
            have:c=60\/c=62\/c=124:=by simpa using C
            rcases this with e|e|e
            ·exact absurd e E
            ·exact absurd e m
            exact e
           subst U
           have V:symB [[60],[124]] (124::r)=symB [[124]] (124::r):=by rw[symB,t];rfl
           rw[V,Z9u (w:=[124]) (by rw[z];rfl) (by simp;omega)]
           simp
theorem J6l:∀ (f:List Str) (c:UInt8) (r:Str) (e:Nat),(∀w∈f,w≠[]/\(91:UInt8)∉w)->symB f (c::r)=.error e->∃w u,c::r=w++91::u/\e=w.length/\1<=e/\(91:UInt8)∉w
 | [],c,r,e,_,h=>by simp[symB]at h
 | w::f,c,r,e,k,h=>by
   unfold symB at h
   cases a:w.isPrefixOf (c::r)with
   | false=>
     rw[a,Q0a]at h
     exact J6l f c r e (λv a=>k v (G2w _ a)) h
   | true=>
     rw[a,Q0b]at h
     obtain⟨u,g⟩:=G2c.1 a
     have hd:(c::r).drop w.length=u:=by rw[<-g];simp
     rw[hd]at h
     cases hb:([91]:Str).isPrefixOf u with
     | false=>rw[hb,Q0a]at h;cases h
     | true=>
       rw[hb,Q0b]at h
       split at h
       ·injection h with h
        match u,hb,g with
        | d::u,hb,g=>
          have l:d=91:=by
           rw[Q0p,G0k,G0s]at hb
           exact hb.1
          subst l
          obtain⟨m,o⟩:=k w (by simp)
          exact⟨w,u,g.symm,h.symm,by rw[<-h];exact G4a.2 m,o⟩
       cases h
theorem K1m{c:UInt8}{r:Str}{e:Nat}(h:sym (c::r)=.error e):∃w u,c::r=w++91::u/\e=w.length/\1<=e/\(91:UInt8)∉w:=by
 unfold sym at h
 simp only[symA]at h
 cases a:([38,38]:Str).isPrefixOf (c::r)with
 | true=>rw[a,Q0b]at h;cases h
 | false=>
   rw[a,Q0a]at h
   cases d:([124,124]:Str).isPrefixOf (c::r)with
   | true=>rw[d,Q0b]at h;cases h
   | false=>
     rw[d,Q0a]at h
     cases f:([36,35]:Str).isPrefixOf (c::r)with
     | true=>rw[f,Q0b]at h;cases h
     | false=>
       rw[f,Q0a]at h
       cases hS:START.contains c with
       | true=>rw[hS,Q0b]at h;cases h
       | false=>
         rw[hS,Q0a]at h
         exact J6l _ c r e (by decide) h
theorem X2t(s:Str)(a e:Int)(nm:Bool){c:Int}(d:c≠0)(off:Int)(l:List Token)(f:List Str):Z7h f s l (a,e,nm,c,off)=some ([],off,c):=by
 have g:Z7g l (a,e,nm,c,off)=some ([],off,c):=by
  rw[Z7g,G0d d]
  rfl
 rw[Z7h]
 by_cases k:0<f.length
 ·rw[G0e (by omega),Q0b,K5f _ _ _ d,G0a]
  exact g
 rw[G0d (by omega),Q0a,g]
theorem J0l(s:Str)(n:Nat)(a e:Int)(nm:Bool){c:Int}(d:c≠0)(off:Int)(l:List Token)(f:List Str):iter (Q2m s) (n+1) (a,e,nm,c,off,l,f)=some ([],off,c):=by
 show Q2m s _ _=_
 rw[Q2m,G0d d,G1o,Q0a]
 cases nm with
 | true=>
   rw[Q0b,K5f _ _ _ d,G0a]
   exact X2t s _ _ _ d off l f
 | false=>rw[Q0a,X2t s _ _ _ d off l f]
theorem X4d{s:Str}(p:s.length<=1000000)(nm:Bool)(x off:Int)(l:List Token)(m:List Str):∀ (a pre rest:Str) (n:Nat),(10:UInt8)∉a->s=pre++(a++rest)->(rest=[]\/nl rest=true)->a.length<n->
 iter (Z3y s nm x off l m) n (pre.length:Int)=some (true,((pre.length+a.length:Nat):Int),-1,nm,x,off,l,m)
 | [],pre,rest,n,k,hs,d,f=>by
   match n,f with
   | n+1,f=>
     have g:s.length=pre.length+rest.length:=by rw[hs];simp
     show Z3y s _ _ _ _ _ _ _=_
     rw[Z3y]
     match rest,d,hs,g with
     | [],d,hs,g=>
       rw[G0d (by simp at g;omega)]
       rfl
     | c::r,d,hs,g=>
       have q:c=10:=by
        rcases d with h|h
        ·cases h
        simpa[nl]using h
       subst q
       have o:sidx s (pre.length:Int)=some (B 10):=by rw[hs];exact Q0u pre 10 r
       rw[G0e (by simp at g;omega),o]
       rfl
 | c::a,pre,rest,n,k,hs,d,f=>by
   match n,f with
   | n+1,f=>
     have g:s.length=pre.length+(a.length+1+rest.length):=by rw[hs];simp;omega
     simp only[G1q,not_or]at k
     have o:sidx s (pre.length:Int)=some (B c):=by rw[hs];exact Q0u pre c (a++rest)
     show Z3y s _ _ _ _ _ _ _=_
     rw[Z3y,G0e (by omega),o]
     simp only[Q0e,Q0b,G0a,G1i,B10]
     rw[G0d (λe=>k.1 e.symm),G0q,Q0b,Q0f (by omega) (by omega)]
     have h:=X4d p nm x off l m a (pre++[c]) rest n k.2 (by rw[hs];simp) d (by simp at f;omega)
     have t:((pre++[c]).length:Int)=(pre.length:Int)+1:=by simp
     rw[t]at h
     rw[h]
     simp
     omega
theorem J6z{s:Str}(m:s.length<=1000000)(p e:Int)(nm:Bool)(off:Int)(l:List Token)(g:List Str):∀ (a pre rest:Str) (n:Nat),(91:UInt8)∉a->s=pre++(a++91::rest)->a.length<n->
 iter (Z3x s p e nm 0 off l g) n (pre.length:Int)=some (true,p,e,nm,47,((pre.length+a.length:Nat):Int),l,g)
 | [],pre,rest,n,f,hs,d=>by
   match n,d with
   | n+1,d=>
     have k:sidx s (pre.length:Int)=some (B 91):=by rw[hs];exact Q0u pre 91 rest
     show Z3x s _ _ _ _ _ _ _ _ _=_
     rw[Z3x,k]
     rfl
 | c::a,pre,rest,n,f,hs,d=>by
   match n,d with
   | n+1,d=>
     have t:s.length=pre.length+(a.length+1+(rest.length+1)):=by rw[hs];simp;omega
     simp only[G1q,not_or]at f
     have k:sidx s (pre.length:Int)=some (B c):=by rw[hs];exact Q0u pre c (a++91::rest)
     have o:decide (B c=91)=decide (c=91):=Q2c c 91
     show Z3x s _ _ _ _ _ _ _ _ _=_
     rw[Z3x,k,G0a,o,G0d (λe=>f.1 e.symm),G0q,Q0b,Q0f (by omega) (by omega)]
     have h:=J6z m p e nm off l g a (pre++[c]) rest n f.2 (by rw[hs];simp) (by simp at d;omega)
     have q:((pre++[c]).length:Int)=(pre.length:Int)+1:=by simp
     rw[q]at h
     rw[h]
     simp
     omega
theorem Q3f{l l':List Token}{u:Token}(h:push l u=.ok l'):lastWord l'=decide (u.kind_=1):=by
 rw[(push_ok h).1]
 simp[lastWord]
theorem Z3l{l l':List Token}{u:Token}{tc:Bool}(h:hat l u tc=.ok l'):lastWord l'=decide (u.kind_=1):=by
 unfold hat at h
 cases a:hats u tc with
 | false=>rw[a,Q0a]at h;exact Q3f h
 | true=>
   rw[a,Q0b]at h
   split at h
   ·cases h
   exact Q3f h
theorem V8p(a:Int)(nm:Bool)(off:Int)(l:List Token)(d:List Str):F93 a a nm 0 off l d=(match push l ⟨2,a,[94],[]⟩with
 | .ok l'=>some (a,a,nm,0,off,l')
 | .error (q,c)=>some (a,a,nm,c,q,l)):=by
 unfold F93
 rw[G0e rfl,Q0b,Z7c]
 cases push l ⟨2,a,[94],[]⟩with
 | ok l'=>rfl
 | error y=>rcases y with⟨q,c⟩;rfl
theorem V8q{a e:Int}(h:e≠a)(nm:Bool)(off:Int)(l:List Token)(d:List Str):F93 a e nm 0 off l d=some (a,e,nm,0,off,l):=by
 unfold F93
 rw[G0d h,Q0a]
theorem putW(p:Nat)(e:Int)(off:Int)(l:List Token)(d:List Str)(x q:Str)(tc:Bool)(u:decide (e=(p:Int))=tc):
 match hat l ⟨1,p,x,q⟩ tc with
 | .ok f=>((F93 (p:Int) e false 0 off l d).bind λ(g,k,m,o,s,t)=>F89 g k m o s (Token.mk 1 (p:Int) x q) t d)=some ((p:Int),e,false,0,off,f)
 | .error (z,c)=>∃l',((F93 (p:Int) e false 0 off l d).bind λ(g,k,m,o,s,t)=>F89 g k m o s (Token.mk 1 (p:Int) x q) t d)=some ((p:Int),e,false,c,z,l'):=by
 have A:hats ⟨1,p,x,q⟩ tc=tc:=by
  unfold hats
  cases tc<;>rfl
 unfold hat
 rw[A]
 cases tc with
 | false=>
   rw[Q0a,V8q (G4m u),G0a]
   dsimp only
   rw[Z7c]
   cases push l ⟨1,(p:Int),x,q⟩with
   | ok f=>rfl
   | error y=>rcases y with⟨a,b⟩;exact⟨_,rfl⟩
 | true=>
   have C:=G3y u
   subst C
   rw[Q0b,V8p]
   cases E:push l ⟨2,(p:Int),[94],[]⟩with
   | error y=>
     rcases y with⟨a,b⟩
     dsimp only
     rw[G0a]
     dsimp only
     exact X5p _ _ _ (J2m E) _ _ _ _
   | ok f=>
     dsimp only
     rw[G0a]
     dsimp only
     rw[Z7c]
     cases push f ⟨1,(p:Int),x,q⟩with
     | ok F=>rfl
     | error y=>rcases y with⟨a,b⟩;exact⟨_,rfl⟩
theorem putS{s pre w u:Str}{c:UInt8}{w':Str}(F:w=c::w')(hs:s=pre++(w++u))(V:s.length<=1000000)(e:Int)(off:Int)(l:List Token)(d:List Str)(tc:Bool)(H:decide (e=(pre.length:Int))=tc):
 match hat l ⟨2,pre.length,w,[]⟩ tc with
 | .ok g=>(bif (decide (B c=36)||decide (B c=96))then
    (F93 (pre.length:Int) e false 0 off l d).bind λ(o,p,t,x,z,A)=>Q6e s ((pre.length+w.length:Nat):Int) d (A,o,p,t,x,z)
   else Q6e s ((pre.length+w.length:Nat):Int) d (l,(pre.length:Int),e,false,0,off))=some (true,((pre.length+w.length:Nat):Int),-1,decide (c=36),0,off,g,d)
 | .error (q,cc)=>∃l',(bif (decide (B c=36)||decide (B c=96))then
    (F93 (pre.length:Int) e false 0 off l d).bind λ(o,p,t,x,z,A)=>Q6e s ((pre.length+w.length:Nat):Int) d (A,o,p,t,x,z)
   else Q6e s ((pre.length+w.length:Nat):Int) d (l,(pre.length:Int),e,false,0,off))=some (true,((pre.length+w.length:Nat):Int),-1,decide (c=36),cc,q,l',d):=by
 have m:decide (B c=36)=decide (c=36):=Q2c c 36
 have J:decide (B c=96)=decide (c=96):=Q2c c 96
 have I:Q0m s (pre.length:Int) ((pre.length+w.length:Nat):Int)=some w:=by
  have h:=sslice_part pre w u
  rw[G0z,<-hs,G0i]at h
  exact h
 have C:sidx s (pre.length:Int)=some (B c):=by rw[hs,F];exact Q0u pre c (w'++u)
 have E:∀ (f:List Token) (k:Int),Q6e s ((pre.length+w.length:Nat):Int) d (f,(pre.length:Int),k,false,0,off)=(match push f ⟨2,pre.length,w,[]⟩with
  | .ok g=>some (true,((pre.length+w.length:Nat):Int),-1,decide (c=36),0,off,g,d)
  | .error (q,cc)=>some (true,((pre.length+w.length:Nat):Int),-1,decide (c=36),cc,q,f,d)):=by
  intro f k
  rw[Q6e,I,G0a,Z7c]
  cases push f ⟨2,(pre.length:Int),w,[]⟩with
  | ok g=>
    dsimp only
    rw[G0a]
    dsimp only
    rw[C,G0a,m]
  | error y=>
    rcases y with⟨q,cc⟩
    dsimp only
    rw[G0a]
    dsimp only
    rw[C,G0a,m]
 have K:∀ (f:List Token) (k:Int) (cc q:Int),cc≠0->∃l',Q6e s ((pre.length+w.length:Nat):Int) d (f,(pre.length:Int),k,false,cc,q)=some (true,((pre.length+w.length:Nat):Int),-1,decide (c=36),cc,q,l',d):=by
  intro f k cc q L
  obtain⟨l',M⟩:=X5p (pre.length:Int) k false L q (Token.mk 2 (pre.length:Int) w []) f d
  refine⟨l',?_⟩
  rw[Q6e,I,G0a,M,G0a]
  dsimp only
  rw[C,G0a,m]
 have O:hats ⟨2,pre.length,w,[]⟩ tc=(tc&&(decide (c=36)||decide (c=96))):=by
  subst F
  show(tc&&(decide ((2:Int)=1)||(decide ((2:Int)=2)&&([36,96]:Str).contains c)))=_
  rw[G0d (by decide),G0e rfl,G1p,G1i]
  congr 1
  simp
 rw[m,J]
 unfold hat
 rw[O]
 cases W:decide (c=36)||decide (c=96)with
 | false=>
   rw[G2d,Q0a,Q0a,E]
   cases push l ⟨2,(pre.length:Int),w,[]⟩with
   | ok g=>rfl
   | error y=>rcases y with⟨a,b⟩;exact⟨_,rfl⟩
 | true=>
   rw[G2x,Q0b]
   cases tc with
   | false=>
     rw[Q0a,V8q (G4m H),G0a]
     dsimp only
     rw[E]
     cases push l ⟨2,(pre.length:Int),w,[]⟩with
     | ok g=>rfl
     | error y=>rcases y with⟨a,b⟩;exact⟨_,rfl⟩
   | true=>
     have Q:=G3y H
     subst Q
     rw[Q0b,V8p]
     cases U:push l ⟨2,(pre.length:Int),[94],[]⟩with
     | error y=>
       rcases y with⟨a,b⟩
       dsimp only
       rw[G0a]
       dsimp only
       exact K _ _ _ _ (J2m U)
     | ok g=>
       dsimp only
       rw[G0a]
       dsimp only
       rw[E]
       cases push g ⟨2,(pre.length:Int),w,[]⟩with
       | ok X=>rfl
       | error y=>rcases y with⟨a,b⟩;exact⟨_,rfl⟩
theorem V9j{r w':Str}(h:sym (36::r)=.ok (36::w')):w'=[]\/w'=[35]:=by
 have d:∀q:Str,([]:Str).isPrefixOf q=true:=λq=>by cases q<;>rfl
 unfold sym at h
 simp only[symA,Q0p]at h
 rw[G0d (by decide),G0d (by decide),G1o,Q0a,G1o,Q0a,G4n,G1i]at h
 cases a:([35]:Str).isPrefixOf r with
 | true=>
   rw[a,Q0b]at h
   injection h with h
   injection h with _ h
   exact .inr h.symm
 | false=>
   rw[a,Q0a,show START.contains 36=true by decide,Q0b]at h
   injection h with h
   injection h with _ h
   exact .inl h.symm
theorem K3y{s:Str}(F:s.length<=1000000)(off:Int)(l:List Token)(q:List Str):∀ (k:Nat) (t pre:Str) (n:Nat) (e:Int),t.length<=k->s=pre++t->t.length+1<n->
 ∃f,(t.drop (blankN t)).length+1<f/\iter (Q2m s) n ((pre.length:Int),e,false,0,off,l,q)=iter (Q2m s) f (((pre.length+blankN t:Nat):Int),(if blankN t=0 then e else -1),false,0,off,l,q):=by
 intro k
 induction k with
 | zero=>
   intro t pre n e m hs a
   have:t=[]:=G3c.1 (by omega)
   subst this
   exact⟨n,a,rfl⟩
 | succ k A=>
   intro t pre n e m hs a
   match t,m,hs,a with
   | [],m,hs,a=>exact⟨n,a,rfl⟩
   | c::r,m,hs,a=>
     match n,a with
     | n+1,a=>
       have H:s.length=pre.length+(r.length+1):=by rw[hs];simp
       simp only[G0h]at m a
       have C:∀g:Int,gap c r=g->0<g->g<=2->Q2m s (iter (Q2m s) n) ((pre.length:Int),e,false,0,off,l,q)=iter (Q2m s) n ((pre.length:Int)+g,-1,false,0,off,l,q):=by
        intro g I J d
        rw[Q2m,G0e (p:=(0:Int)=0) rfl,G0e (p:=(pre.length:Int)<(s.length:Int)) (by omega),G3o,Q0b]
        unfold F52
        rw[Q0a,Z0c hs F,G0a,I,G0e J,Q0b,Q0f (by omega) (by omega),G0a]
        dsimp only
        rw[Q0b]
       rcases Z6a c r with⟨u,d⟩|⟨E,rfl,u,d⟩|⟨u,d⟩
       ·obtain⟨f,x,o⟩:=A r (pre++[c]) n (-1) (by omega) (by rw[hs];simp) (by omega)
        have y:((pre++[c]).length:Int)=(pre.length:Int)+1:=by simp
        have z:(pre++[c]).length=pre.length+1:=by simp
        refine⟨f,?_,?_⟩
        ·rw[d,G6n 1,G3z]
         exact x
        show Q2m s _ _=_
        rw[C 1 u (by decide) (by decide)]
        rw[y,z]at o
        have:(if blankN r=0 then(-1:Int)else -1)=-1:=by split<;>rfl
        rw[o,this,d,if_neg (by omega),G3b]
       ·simp only[G0h]at m a H
        obtain⟨f,x,o⟩:=A E (pre++[c,10]) n (-1) (by omega) (by rw[hs];simp) (by omega)
        have y:((pre++[c,10]).length:Int)=(pre.length:Int)+2:=by simp
        have z:(pre++[c,10]).length=pre.length+2:=by simp
        refine⟨f,?_,?_⟩
        ·rw[d,G6n 2,G3z,G3z]
         exact x
        show Q2m s _ _=_
        rw[C 2 u (by decide) (by decide)]
        rw[y,z]at o
        have:(if blankN E=0 then(-1:Int)else -1)=-1:=by split<;>rfl
        rw[o,this,d,if_neg (by omega),G3b]
       refine⟨n+1,?_,?_⟩
       ·rw[d]
        simp
        omega
       rw[d,if_pos rfl]
       rfl
theorem X3e{p:Nat}{t:Str}{l l':List Token}{e f:List Str}{m:Nat}(h:here p t l e=.ok (l',f,m)):lastWord l'=false:=by
 unfold here at h
 split at h
 ·cases h
 rename_i x q g _
 cases d:decide (g=0)with
 | true=>rw[d,Q0b]at h;cases h
 | false=>
   rw[d,Q0a]at h
   cases a:push l ⟨4,p,x,q⟩with
   | error y=>rw[a]at h;cases h
   | ok k=>
     rw[a]at h
     injection h with h
     injection h with h _
     subst h
     rw[Q3f a]
     rfl
theorem Y0a{s:Str}(hl:s.length<=100000):∀ (k:Nat) (t pre:Str) (n:Nat) (e off:Int) (l:List Token) (f:List Str),t.length<k->s=pre++t->t.length+1<n->l.length<=1024->f.length+t.length<=1000000->
 (t=[]\/nl t=true\/decide (e=(pre.length:Int))=lastWord l)->J1a (lex k pre.length t l f) (iter (Q2m s) n ((pre.length:Int),e,false,0,off,l,f)):=by
 intro k
 induction k with
 | zero=>intro t pre n e off l f hk;omega
 | succ k ih=>
   intro t pre n e off l f hk hs hn a4 ch hE
   have ci:s.length=pre.length+t.length:=by rw[hs];simp
   have U:s.length<=1000000:=by omega
   have hb:=Q5b t.length t (G0o _)
   have hz:=Q3s t.length t (G0o _)
   obtain⟨g,A,aP⟩:=K3y U off l f t.length t pre n e (G0o _) hs hn
   have H:s=(pre++t.take (blankN t))++t.drop (blankN t):=by rw[hs,G0z,G1v]
   have F:(pre++t.take (blankN t)).length=pre.length+blankN t:=by simp;omega
   have V:(t.drop (blankN t)).length=t.length-blankN t:=by simp
   have hT:∀c r,t.drop (blankN t)=c::r->c≠10->decide ((if blankN t=0 then e else -1)=((pre.length+blankN t:Nat):Int))=(lastWord l&&decide (blankN t=0)):=by
    intro c r ak hc
    by_cases h0:blankN t=0
    ·rw[h0]at ak |-
     rw[G3e]at ak
     rw[if_pos rfl,G0e (p:=(0:Nat)=0) rfl,G2x,G2j]
     rcases hE with h|h|h
     ·rw[h]at ak;cases ak
     ·rw[ak]at h
      exact absurd (by simpa[nl]using h) hc
     exact h
    rw[if_neg h0,G0d h0,G2d]
    exact G0d (by omega)
   rw[aP,lex]
   generalize (if blankN t=0 then e else(-1:Int))=J at *
   generalize blankN t=b at *
   generalize t.drop b=t' at *
   clear aP
   match g,A with
   | g+1,A=>
     show J1a _ (Q2m s _ _)
     match t',H,hz,V,A,hT with
     | [],H,hz,V,A,hT=>
       have hat:(s.length:Int)=((pre.length+b:Nat):Int):=by simp at V;omega
       rw[Q2m,G0d (p:=((pre.length+b:Nat):Int)<(s.length:Int)) (by omega),G2d,Q0a,Q0a,Z7h]
       dsimp only
       by_cases h0:0<f.length
       ·rw[G0e h0,Q0b,G0e (by omega),Q0b,J3q,G0a]
        dsimp only
        rw[Z7g,hat]
        exact⟨rfl,by decide⟩
       rw[G0d h0,Q0a,G0d (by omega),Q0a]
       exact rfl
     | c::r,H,hz,V,A,hT=>
       have a7:((pre.length+b:Nat):Int)<(s.length:Int):=by simp at V;omega
       have h0:sidx s ((pre.length+b:Nat):Int)=some (B c):=by
        have h:=Q0u (pre++t.take b) c r
        rw[<-H,F]at h
        exact h
       have cut:∀m,m<=(c::r).length->s=(pre++t.take b++(c::r).take m)++(c::r).drop m/\(pre++t.take b++(c::r).take m).length=pre.length+b+m:=by
        intro m hm
        refine⟨by rw[G0z (pre++t.take b),G1v];exact H,?_⟩
        rw[G0i,F,G1h]
        omega
       have aR:=V8u H U hz
       rw[F]at aR
       rw[Q2m,G0e (p:=(0:Int)=0) rfl,G0e a7,G3o,Q0b]
       have aS:F52 s ((pre.length+b:Nat):Int) J false 0 off l f=(bif decide (c=35)then iter (Z3y s false 0 off l f) BIG ((pre.length+b:Nat):Int)else
        (bif decide (c=10)then
          (F89 ((pre.length+b:Nat):Int) J false 0 off (Token.mk 3 ((pre.length+b:Nat):Int) [10] []) l f).bind λ(a8,cj,a9,ba,bb,aT)=>
          (F90 s (IntKind.wrap .i64 (a8+1)) (-1) a9 ba bb aT f).bind λ(bc,be,bf,bg,bh)=>
          some (false,bc,be,bf,bg,bh,aT,f)
        else(bif ([60,60]:Str).isPrefixOf (c::r)then
         (F91 s ((pre.length+b:Nat):Int) J false 0 off l f).bind λ(bi,bj,bk,bl,bm,bn,bo)=>
         some (true,bi,bj,bk,bl,bm,bn,bo)
        else
         (bif decide (symN (pre.length+b) (sym (c::r))<0)then
           iter (Z3x s ((pre.length+b:Nat):Int) J false 0 off l f) BIG (IntKind.wrap .i64 (((pre.length+b:Nat):Int)+1))
         else
          (bif decide (((pre.length+b:Nat):Int)<symN (pre.length+b) (sym (c::r)))then
            (bif (decide (B c=36)||decide (B c=96))then
              (F93 ((pre.length+b:Nat):Int) J false 0 off l f).bind λ(bp,bq,br,bt,bu,bv)=>
              Q6e s (symN (pre.length+b) (sym (c::r))) f (bv,bp,bq,br,bt,bu)
            else
             Q6e s (symN (pre.length+b) (sym (c::r))) f (l,((pre.length+b:Nat):Int),J,false,0,off))
          else
           (F94 s ((pre.length+b:Nat):Int)).bind λaf=>
           (bif !af.ok_ then
             (F53 ((pre.length+b:Nat):Int) J false 0 off 48 af.to_ l f).bind λ(bw,bx,bz,bA,bB)=>
             some (true,bw,bx,bz,bA,bB,l,f)
           else
            (F93 ((pre.length+b:Nat):Int) J false 0 off l f).bind λ(bD,bE,bF,bG,bH,bI)=>
            (F89 bD bE bF bG bH (Token.mk 1 ((pre.length+b:Nat):Int) af.text_ af.quoted_) bI f).bind λ(ck,cl,bJ,bK,bL,bM)=>
            some (true,af.to_,af.to_,bJ,bK,bL,bM,f))))))):=by
        unfold F52
        rw[Q0a,aR,G0a,G0d (p:=(0:Int)<0) (by decide),Q0a,h0,G0a,B35,B10]
        have aU:=V8r H U
        rw[F]at aU
        rw[Q0f (n:=((pre.length+b:Nat):Int)+2) (by omega) (by omega),aU,G0a]
        have hg:∃x,(Q0e (decide (((pre.length+b:Nat):Int)+2<=(s.length:Int))) (Q0m s ((pre.length+b:Nat):Int) (((pre.length+b:Nat):Int)+2)))=some x/\(decide (((pre.length+b:Nat):Int)+2<=(s.length:Int))&&decide (x=[60,60]))=([60,60]:Str).isPrefixOf (c::r):=by
         match r,H,V with
         | [],H,V=>
           rw[G0d (by simp at V;omega)]
           refine⟨_,rfl,?_⟩
           rw[Q0p,Z0j,G2d]
           rfl
         | d::r,H,V=>
           have h:=sslice_part (pre++t.take b) [c,d] r
           have ee:pre++t.take b++[c,d]++r=s:=by rw[H];simp
           have bP:(pre++t.take b++[c,d]).length=pre.length+b+[c,d].length:=by rw[G0i,F]
           rw[ee,F,bP]at h
           have e3:((pre.length+b+[c,d].length:Nat):Int)=((pre.length+b:Nat):Int)+2:=by simp
           rw[e3]at h
           rw[G0e (by simp at V;omega),h]
           exact⟨[c,d],rfl,X0i 60 60 c (d::r)⟩
        obtain⟨x,hx,bQ⟩:=hg
        rw[hx,G0a,bQ]
       rw[aS]
       clear aS
       dsimp only
       by_cases aG:c=35
       ·rw[G0e aG,Q0b,Q0b]
        obtain⟨a,rest,ha,ae,Y,bS⟩:∃a rest:Str,(10:UInt8)∉a/\c::r=a++rest/\(rest=[]\/nl rest=true)/\cmt (c::r)=a.length:=by
         rcases firstOf 10 (c::r)with hf|⟨a,w,hf,ha⟩
         ·exact⟨c::r,[],hf,by simp,.inl rfl,J7n hf⟩
         exact⟨a,10::w,hf,ha,.inr rfl,by rw[ha];exact K0d w hf⟩
        have cm:(c::r).length=a.length+rest.length:=by rw[ae];simp
        have cn:0<a.length:=by
         match a,ae,Y with
         | [],ae,Y=>
           rw[G1y]at ae
           rw[<-ae]at Y
           rcases Y with h|h
           ·cases h
           have:c=10:=by simpa[nl]using h
           rw[aG]at this
           exact absurd this (by decide)
         | d::a,_,_=>simp
        have am:=X4d U false 0 off l f a (pre++t.take b) rest BIG ha (by rw[H,ae]) Y (by unfold BIG;omega)
        rw[F]at am
        rw[am,G0a]
        dsimp only
        rw[Q0b,bS]
        obtain⟨K,c2⟩:=cut a.length (by omega)
        have bT:(c::r).drop a.length=rest:=by rw[ae];simp
        have h:=ih ((c::r).drop a.length) _ g (-1) off l f (by rw[G0p];omega) K (by rw[G0p];omega) a4 (by rw[G0p];omega) (by
         rw[bT]
         rcases Y with h|h
         ·exact .inl h
         exact .inr (.inl h))
        rw[c2]at h
        exact h
       rw[G0d aG,Q0a,Q0a]
       by_cases aA:c=10
       ·rw[G0e aA,Q0b,Q0b,Z7c]
        unfold nls
        cases hp:push l ⟨3,((pre.length+b:Nat):Int),[10],[]⟩with
        | error y=>
          rcases y with⟨q,cc⟩
          dsimp only
          rw[G0a]
          dsimp only
          rw[K5b _ _ _ _ (J2m hp),G0a]
          dsimp only
          rw[G0a]
          dsimp only
          rw[Q0a]
          match g,A with
          | g+1,A=>exact⟨J0l s g _ _ _ (J2m hp) _ _ _,J2m hp⟩
        | ok L=>
          dsimp only
          rw[G0a]
          dsimp only
          obtain⟨K,c2⟩:=cut 1 (by simp)
          have aV:=V8t K U (-1) false off L f (by omega)
          rw[c2]at aV
          rw[Q0f (by omega) (by omega),show((pre.length+b:Nat):Int)+1=((pre.length+b+1:Nat):Int)by omega,aV]
          cases hd:docs f ((c::r).drop 1)with
          | error y=>
            rcases y with⟨o,cc⟩
            have W:cc≠0:=by rw[J0t _ _ _ _ hd];decide
            dsimp only
            rw[G0a]
            dsimp only
            rw[G0a]
            dsimp only
            rw[Q0a]
            match g,A with
            | g+1,A=>exact⟨J0l s g _ _ _ W _ _ _,W⟩
          | ok m=>
            have hm:=J5e _ _ _ hd
            dsimp only
            rw[G0a]
            dsimp only
            rw[G0a]
            dsimp only
            rw[Q0a]
            have co:m<=r.length:=by simpa using hm
            obtain⟨d1,d2⟩:=cut (1+m) (by simp;omega)
            have h:=ih ((c::r).drop (1+m)) _ g (-1) off L [] (by rw[G0p];simp at V |-;omega) d1 (by rw[G0p];simp at A |-;omega) (push_ok hp).2 (by rw[G0p];simp at V |-;omega) (.inr (.inr (by
             rw[Q3f hp,d2]
             exact G0d (by omega))))
            rw[d2]at h
            rw[G3b (pre.length+b) 1 m]
            exact h
       rw[G0d aA,Q0a,Q0a]
       have aB:=hT c r rfl aA
       cases bU:([60,60]:Str).isPrefixOf (c::r)with
       | true=>
         rw[Q0b,Q0b]
         have aW:=(G2c.1 bU).length_le
         have ar:=V8s H aW U J false off l f (by omega)
         rw[F]at ar
         cases hq:here (pre.length+b) (c::r) l f with
         | error y=>
           rcases y with⟨q,cc⟩
           rw[hq]at ar
           obtain⟨x1,x2,x3,x4,x5,hx⟩:=ar
           rw[hx,G0a]
           dsimp only
           rw[G0a]
           dsimp only
           rw[Q0b]
           match g,A with
           | g+1,A=>exact⟨J0l s g _ _ _ (Z4w hq) _ _ _,Z4w hq⟩
         | ok y=>
           rcases y with⟨L,aX,m⟩
           rw[hq]at ar
           obtain⟨g1,_,g2,g3,g4⟩:=J5a aW hq
           have bV:F91 s ((pre.length+b:Nat):Int) J false 0 off l f=some (((pre.length+b+m:Nat):Int),-1,false,0,off,L,aX):=ar
           rw[bV,G0a]
           dsimp only
           rw[G0a]
           dsimp only
           rw[Q0b]
           obtain⟨K,c2⟩:=cut m g3
           have h:=ih ((c::r).drop m) _ g (-1) off L aX (by rw[G0p];omega) K (by rw[G0p];omega) g1 (by rw[G0p];omega) (.inr (.inr (by
            rw[X3e hq,c2]
            exact G0d (by omega))))
           rw[c2]at h
           exact h
       | false=>
         rw[Q0a,Q0a]
         cases hq:tok (pre.length+b) (c::r) l (lastWord l&&decide (b=0))with
         | error y=>
           rcases y with⟨q,cc⟩
           have W:=J3z hq
           dsimp only
           unfold tok at hq
           cases M:sym (c::r)with
           | error o=>
             rw[M]at hq
             injection hq with hq
             injection hq with O C
             subst O C
             obtain⟨w,u,aD,aI,aY,aJ⟩:=K1m M
             match w,aD,aI,aY,aJ with
             | d::w,aD,aI,aY,aJ=>
               have hd:c=d:=by injection aD
               have Y:r=w++91::u:=by injection aD
               subst hd
               rw[show symN (pre.length+b) (Except.error o)=-1 from rfl,G0e (p:=(-1:Int)<0) (by decide),Q0b,Q0f (by omega) (by omega)]
               obtain⟨K,c2⟩:=cut 1 (by simp)
               have am:=J6z U ((pre.length+b:Nat):Int) J false off l f w (pre++t.take b++(c::r).take 1) u BIG (λh=>aJ (G2w _ h)) (by rw[K];simp[Y]) (by
                have:r.length=w.length+(u.length+1):=by rw[Y];simp
                simp at V
                unfold BIG
                omega)
               rw[c2,show((pre.length+b+1:Nat):Int)=((pre.length+b:Nat):Int)+1 by omega]at am
               rw[am,G0a]
               dsimp only
               rw[Q0b]
               have e3:((pre.length+b+1+w.length:Nat):Int)=((pre.length+b+o:Nat):Int):=by
                rw[aI]
                simp
                omega
               rw[e3]
               match g,A with
               | g+1,A=>exact⟨J0l s g _ _ _ (by decide) _ _ _,by decide⟩
           | ok w=>
             rw[M]at hq
             rw[show symN (pre.length+b) (Except.ok w)=((pre.length+b+w.length:Nat):Int) from rfl,G0d (p:=((pre.length+b+w.length:Nat):Int)<0) (by omega),Q0a]
             match w,M,hq with
             | [],M,hq=>
               dsimp only at hq
               rw[G0d (p:=((pre.length+b:Nat):Int)<((pre.length+b+([]:Str).length:Nat):Int)) (by simp),Q0a]
               have aa:=X5o H U
               rw[F]at aa
               cases ag:wd (c::r).length (c::r)with
               | error o=>
                 rw[ag]at hq
                 injection hq with hq
                 injection hq with O C
                 subst O C
                 rw[ag]at aa
                 have au:F94 s ((pre.length+b:Nat):Int)=some ⟨[],[],((pre.length+b+o:Nat):Int),false⟩:=aa
                 rw[au,G0a]
                 dsimp only
                 rw[G0q,Q0b,J3q,G0a]
                 dsimp only
                 rw[G0a]
                 dsimp only
                 rw[Q0b]
                 match g,A with
                 | g+1,A=>exact⟨J0l s g _ _ _ (by decide) _ _ _,by decide⟩
               | ok y=>
                 rcases y with⟨x,y,m⟩
                 rw[ag]at hq aa
                 have au:F94 s ((pre.length+b:Nat):Int)=some ⟨x,y,((pre.length+b+m:Nat):Int),true⟩:=aa
                 dsimp only at hq
                 have Q:=putW (pre.length+b) J off l f x y _ aB
                 cases I:hat l ⟨1,((pre.length+b:Nat):Int),x,y⟩ (lastWord l&&decide (b=0))with
                 | ok L=>rw[I]at hq;cases hq
                 | error z=>
                   rw[I]at hq Q
                   injection hq with hq
                   subst hq
                   obtain⟨l',aK⟩:=Q
                   rw[au,G0a]
                   dsimp only
                   rw[G0u,Q0a]
                   obtain⟨⟨y1,y2,y3,y4,y5,y6⟩,hy,av⟩:=G1n.1 aK
                   dsimp only at av
                   rw[hy,G0a]
                   dsimp only
                   rw[av,G0a]
                   dsimp only
                   rw[G0a]
                   dsimp only
                   rw[Q0b]
                   match g,A with
                   | g+1,A=>exact⟨J0l s g _ _ _ W _ _ _,W⟩
             | d::w,M,hq=>
               obtain⟨u,hu⟩:=sym_pre M
               have hd:c=d:=by injection hu with h1 _;exact h1.symm
               subst hd
               rw[G0e (p:=((pre.length+b:Nat):Int)<((pre.length+b+(c::w).length:Nat):Int)) (by simp;omega),Q0b]
               have Q:=putS (s:=s) (pre:=pre++t.take b) (w:=c::w) (u:=u) rfl (by rw[H,hu]) U J off l f (lastWord l&&decide (b=0)) (by rw[F];exact aB)
               rw[F]at Q
               cases I:hat l ⟨2,((pre.length+b:Nat):Int),c::w,[]⟩ (lastWord l&&decide (b=0))with
               | error z=>
                 rcases z with⟨z1,z2⟩
                 rw[I]at Q
                 dsimp only at hq
                 rw[I]at hq
                 injection hq with hq
                 injection hq with O C
                 subst O C
                 obtain⟨l',aK⟩:=Q
                 rw[aK,G0a]
                 dsimp only
                 rw[Q0b]
                 match g,A with
                 | g+1,A=>exact⟨J0l s g _ _ _ W _ _ _,W⟩
               | ok L=>
                 rw[I]at Q
                 dsimp only at hq
                 rw[I]at hq
                 dsimp only at hq
                 rw[Q,G0a]
                 dsimp only
                 rw[Q0b]
                 cases X:decide (c::w=[36])||decide (c::w=[36,35])with
                 | false=>rw[X,Q0a]at hq;cases hq
                 | true=>
                   rw[X,Q0b]at hq
                   have aw:c=36:=by
                    simp only[G2r,G0s]at X
                    rcases X with h|h
                    ·injection h
                    injection h
                   cases E:name (pre.length+b+(c::w).length) ((c::r).drop (c::w).length) L with
                   | ok l2=>rw[E]at hq;cases hq
                   | error z=>
                     rcases z with⟨z1,z2⟩
                     rw[E]at hq
                     injection hq with hq
                     injection hq with O C
                     subst O C
                     have aN:(c::w).length<=(c::r).length:=by rw[<-hu];simp
                     obtain⟨K,c2⟩:=cut (c::w).length aN
                     have aO:(c::r).drop (c::w).length=u:=by rw[<-hu];simp
                     rw[aO]at K E
                     rw[G0e aw]
                     match g,A with
                     | g+1,A=>
                       show J1a _ (Q2m s _ _)
                       have aZ:s.length=pre.length+b+(c::w).length+u.length:=by
                        rw[K,G0i,c2]
                       by_cases a0:u=[]
                       ·subst a0
                        have b4:name (pre.length+b+(c::w).length) [] L=.error (((pre.length+b+(c::w).length:Nat):Int),47):=rfl
                        rw[b4]at E
                        injection E with E
                        injection E with O C
                        subst O C
                        rw[Q2m,G0d (p:=((pre.length+b+(c::w).length:Nat):Int)<(s.length:Int)) (by simp at aZ |-;omega),G2d,Q0a,Q0b,J3q,G0a]
                        dsimp only
                        exact⟨X2t s _ _ _ (by decide) _ _ _,by decide⟩
                       have b5:0<u.length:=G4a.2 a0
                       rw[Q2m,G0e (p:=(0:Int)=0) rfl,G0e (p:=((pre.length+b+(c::w).length:Nat):Int)<(s.length:Int)) (by omega),G3o,Q0b]
                       unfold F52
                       have ah:=K1a K U (-1) true off L f
                       rw[c2,E]at ah
                       dsimp only at ah
                       rw[Q0b,ah]
                       by_cases a1:Q1u u=0
                       ·rw[if_pos a1,G0a]
                        dsimp only
                        rw[G0a]
                        dsimp only
                        rw[Q0b]
                        match g,A with
                        | g+1,A=>exact⟨J0l s g _ _ _ W _ _ _,W⟩
                        | 0,A=>simp at A;omega
                       rw[if_neg a1,G0a]
                       dsimp only
                       rw[G0a]
                       dsimp only
                       rw[Q0b]
                       match g,A with
                       | g+1,A=>exact⟨J0l s g _ _ _ W _ _ _,W⟩
                       | 0,A=>simp at A;omega
         | ok y=>
           rcases y with⟨L,m⟩
           obtain⟨g1,g2,g3⟩:=X0j hz aA hq
           dsimp only
           obtain⟨d1,d2⟩:=cut m g3
           have fin:∀ (C:Int) (F:Nat),decide (C=((pre.length+b+m:Nat):Int))=lastWord L->(c::r).length-m+1<F->J1a (lex k (pre.length+b+m) ((c::r).drop m) L f) (iter (Q2m s) F (((pre.length+b+m:Nat):Int),C,false,0,off,L,f)):=by
            intro C F b6 cu
            have h:=ih ((c::r).drop m) _ F C off L f (by rw[G0p];omega) d1 (by rw[G0p];omega) g1 (by rw[G0p];omega) (.inr (.inr (by rw[d2];exact b6)))
            rw[d2]at h
            exact h
           unfold tok at hq
           cases M:sym (c::r)with
           | error o=>rw[M]at hq;cases hq
           | ok w=>
             rw[M]at hq
             rw[show symN (pre.length+b) (Except.ok w)=((pre.length+b+w.length:Nat):Int) from rfl,G0d (p:=((pre.length+b+w.length:Nat):Int)<0) (by omega),Q0a]
             match w,M,hq with
             | [],M,hq=>
               dsimp only at hq
               rw[G0d (p:=((pre.length+b:Nat):Int)<((pre.length+b+([]:Str).length:Nat):Int)) (by simp),Q0a]
               have aa:=X5o H U
               rw[F]at aa
               cases ag:wd (c::r).length (c::r)with
               | error o=>rw[ag]at hq;cases hq
               | ok y=>
                 rcases y with⟨x,y,m'⟩
                 rw[ag]at hq aa
                 have au:F94 s ((pre.length+b:Nat):Int)=some ⟨x,y,((pre.length+b+m':Nat):Int),true⟩:=aa
                 dsimp only at hq
                 have Q:=putW (pre.length+b) J off l f x y _ aB
                 cases I:hat l ⟨1,((pre.length+b:Nat):Int),x,y⟩ (lastWord l&&decide (b=0))with
                 | error z=>rw[I]at hq;cases hq
                 | ok l2=>
                   rw[I]at hq Q
                   injection hq with hq
                   injection hq with O C
                   subst O C
                   rw[au,G0a]
                   dsimp only
                   rw[G0u,Q0a]
                   obtain⟨⟨y1,y2,y3,y4,y5,y6⟩,hy,av⟩:=G1n.1 Q
                   dsimp only at av
                   rw[hy,G0a]
                   dsimp only
                   rw[av,G0a]
                   dsimp only
                   rw[G0a]
                   dsimp only
                   rw[Q0b]
                   exact fin _ g (by rw[Z3l I,G0e rfl];rfl) (by simp at A g2 g3 |-;omega)
             | d::w,M,hq=>
               obtain⟨u,hu⟩:=sym_pre M
               have hd:c=d:=by injection hu with h1 _;exact h1.symm
               subst hd
               rw[G0e (p:=((pre.length+b:Nat):Int)<((pre.length+b+(c::w).length:Nat):Int)) (by simp;omega),Q0b]
               have Q:=putS (s:=s) (pre:=pre++t.take b) (w:=c::w) (u:=u) rfl (by rw[H,hu]) U J off l f (lastWord l&&decide (b=0)) (by rw[F];exact aB)
               rw[F]at Q
               cases I:hat l ⟨2,((pre.length+b:Nat):Int),c::w,[]⟩ (lastWord l&&decide (b=0))with
               | error z=>dsimp only at hq;rw[I]at hq;cases hq
               | ok l2=>
                 rw[I]at Q
                 dsimp only at hq
                 rw[I]at hq
                 dsimp only at hq
                 rw[Q,G0a]
                 dsimp only
                 rw[Q0b]
                 cases X:decide (c::w=[36])||decide (c::w=[36,35])with
                 | false=>
                   rw[X,Q0a]at hq
                   injection hq with hq
                   injection hq with O C
                   subst O C
                   have aw:c≠36:=by
                    intro h
                    subst h
                    rcases V9j M with h|h
                    ·subst h;simp at X
                    subst h;simp at X
                   rw[G0d aw]
                   exact fin _ g (by rw[Z3l I];exact G0d (by omega)) (by simp at A g2 g3 |-;omega)
                 | true=>
                   rw[X,Q0b]at hq
                   have aw:c=36:=by
                    simp only[G2r,G0s]at X
                    rcases X with h|h
                    ·injection h
                    injection h
                   cases E:name (pre.length+b+(c::w).length) ((c::r).drop (c::w).length) l2 with
                   | error z=>rw[E]at hq;cases hq
                   | ok l3=>
                     rw[E]at hq
                     injection hq with hq
                     injection hq with O C
                     have aN:(c::w).length<=(c::r).length:=by rw[<-hu];simp
                     obtain⟨K,c2⟩:=cut (c::w).length aN
                     have aO:(c::r).drop (c::w).length=u:=by rw[<-hu];simp
                     rw[aO]at K E C
                     have b9:lastWord l3=true:=by
                      unfold name at E
                      split at E
                      ·cases E
                      rw[Q3f E];rfl
                     have b5:0<Q1u u:=by
                      unfold name at E
                      split at E
                      ·cases E
                      omega
                     have cv:=nameN_le u
                     subst O
                     rw[G0e aw]
                     match g,A with
                     | g+1,A=>
                       show J1a _ (Q2m s _ _)
                       have aZ:s.length=pre.length+b+(c::w).length+u.length:=by
                        rw[K,G0i,c2]
                       rw[Q2m,G0e (p:=(0:Int)=0) rfl,G0e (p:=((pre.length+b+(c::w).length:Nat):Int)<(s.length:Int)) (by omega),G3o,Q0b]
                       unfold F52
                       have ah:=K1a K U (-1) true off l2 f
                       rw[c2,E]at ah
                       have cf:F87 s ((pre.length+b+(c::w).length:Nat):Int) (-1) true 0 off l2 f=some (((pre.length+b+(c::w).length+Q1u u:Nat):Int),((pre.length+b+(c::w).length+Q1u u:Nat):Int),false,0,off,l3):=ah
                       rw[Q0b,cf,G0a]
                       dsimp only
                       rw[G0a]
                       dsimp only
                       rw[Q0b,G3b (pre.length+b),C]
                       exact fin _ g (by rw[b9];exact G0e rfl) (by simp at A g2 g3 C |-;omega)
theorem F6_eq(s:Str)(a:s.length<=65536):J1a (lex (s.length+1) 0 s [] []) (F22 s):=by
 unfold F22
 rw[G0d (by omega),Q0a]
 exact Y0a (s:=s) (by omega) (s.length+1) s [] BIG (-1) 0 [] [] (by omega) rfl (by unfold BIG;omega) (by simp) (by simp;omega) (.inr (.inr rfl))
end Go.Abs.U48.Lx
namespace Go.Abs.U48
open Go Go.Proofs
theorem V6i{s e:Str}{at_ f:Int}{a:Int->Option (Str×Int×Int)}(d:∀p r,a p=some r->r.1.length<=s.length):∀ (n:Nat) (p:Int) (r:Str×Int×Int),iter (Q8w s f e at_ a) n p=some r->r.1.length<=s.length:=by
 intro n
 induction n with
 | zero=>intro p r h;cases h
 | succ n g=>
   intro p r h
   replace h:Q8w s f e at_ a (iter (Q8w s f e at_ a) n) p=some r:=h
   rw[Q8w]at h
   obtain⟨c,-,h⟩:=G1n.1 h
   revert h
   cases(decide (p<(s.length:Int))&&!decide (c=10))with
   | true=>exact λh=>g _ _ h
   | false=>
     rw[Q0a]
     intro h
     obtain⟨t,-,h⟩:=G1n.1 h
     revert h
     cases decide (t=e)with
     | false=>exact λh=>d _ _ h
     | true=>
       rw[Q0b]
       intro h
       obtain⟨u,k,h⟩:=G1n.1 h
       injection h with h
       subst h
       have:=(Q0r k).2.2.2.2
       rw[<-this,G1h,G0p]
       omega
theorem K4x{s e:Str}{at_:Int}{r:Str×Int×Int}(h:F54 s at_ e=some r):r.1.length<=s.length:=by
 rw[F54]at h
 revert h
 cases(decide (at_<0)||decide ((s.length:Int)<at_))with
 | true=>
   rw[Q0b]
   intro h
   injection h with h
   subst h
   exact G2l _
 | false=>
   rw[Q0a]
   have:∀ (n:Nat) (p:Int) (r:Str×Int×Int),iter (Q2s s e at_) n p=some r->r.1.length<=s.length:=by
    intro n
    induction n with
    | zero=>intro p r h;cases h
    | succ n a=>
      intro p r h
      replace h:Q2s s e at_ (iter (Q2s s e at_) n) p=some r:=h
      rw[Q2s]at h
      revert h
      cases decide (p<(s.length:Int))with
      | true=>exact λh=>V6i a BIG _ _ h
      | false=>
        rw[Q0a]
        intro h
        injection h with h
        subst h
        exact G2l _
   exact λh=>this _ _ _ h
def hre(S:Str)(a:Int)(e:Str):Str×Int×Int:=(F54 S a e).getD ([],0,0)
theorem X3b{S:Str}(hs:S.length<=1000000)(a:Int)(e:Str):F72 S a e=some (hre S a e)/\F54 S a e=some (hre S a e)/\(hre S a e).1.length<=1000000:=by
 obtain⟨r,f,d⟩:=Lx.heres (s:=S) (e:=e) (at_:=a) hs
 have g:=K4x d
 rw[hre,d]
 exact⟨f,rfl,G3u g hs⟩
def hk(T:List Token):Nat->Nat->List Int
 | _,0=>[]
 | k,n+1=>if (tp T (k:Int)).kind_=4 then(k:Int)::hk T (k+1) n else hk T (k+1) n
theorem X3c(T:List Token):∀ (n k:Nat),hk T k (n+1)=hk T k n++if (tp T ((k+n:Nat):Int)).kind_=4 then[((k+n:Nat):Int)]else[]
 | 0,k=>by
   rw[hk,hk,hk,G2j,G1y]
 | n+1,k=>by
   rw[hk,X3c T n (k+1),hk,show k+1+n=k+(n+1)by omega]
   by_cases h:(tp T (k:Int)).kind_=4
   ·rw[if_pos h,if_pos h]
    rfl
   rw[if_neg h,if_neg h]
theorem X9q(T:List Token):∀ (n k:Nat),(hk T k n).length<=n
 | 0,k=>G0o _
 | n+1,k=>by
   have:=X9q T n (k+1)
   rw[hk]
   split
   ·rw[G0h];omega
   omega
def dst(S:Str)(T:List Token):List Int->Int->List Str->List Str
 | [],_,D=>D
 | k::r,a,D=>dst S T r (hre S a (tp T k).text_).2.1 (D.set k.toNat (hre S a (tp T k).text_).1)
theorem X3y(S:Str)(T:List Token):∀ (l:List Int) (a:Int) (D:List Str),(dst S T l a D).length=D.length
 | [],_,_=>rfl
 | k::r,a,D=>by rw[dst,X3y S T r,G2s]
theorem J3e{S:Str}(hs:S.length<=1000000)(T:List Token):∀ (l:List Int) (a:Int) (D:List Str),(∀d∈D,d.length<=1000000)->∀d∈dst S T l a D,d.length<=1000000
 | [],_,_,h=>h
 | k::r,a,D,h=>by
   rw[dst]
   refine J3e hs T r _ _ (λd hd=>?_)
   rcases G2q hd with hd|rfl
   ·exact h d hd
   exact(X3b hs _ _).2.2
section
variable {S:Str}{T:List Token}
theorem lset{D:List Str}{k:Int}(a:0<=k)(h:k<D.length):∃w,lidx D k=some w:=by
 have d:k.toNat<D.length:=by omega
 exact⟨D[k.toNat],by rw[lidx,if_pos a,G0c d]⟩
theorem V6h(hs:S.length<=1000000)(hT:T.length<=1000000)(e:Int×List Str×List Int->Option (List Str))(i:Int):∀ (r pre:List Int) (m:Nat) (a:Int) (D:List Str),
 r.length<m->D.length=T.length->(pre++r).length<=1000000->(∀k∈r,0<=k/\k<T.length)->
 iter (Z3z (pre++r) T S e i) m (a,(pre.length:Int),D)=e (IntKind.wrap .i64 (i+1),dst S T r a D,[])
 | [],pre,m+1,a,D,g,hD,l,d=>by
   show Z3z _ _ _ _ _ _ _=_
   rw[Z3z]
   try dsimp only
   rw[G1s,G0d (by omega),Q0a,dst]
 | k::r,pre,m+1,a,D,g,hD,l,d=>by
   show Z3z _ _ _ _ _ _ _=_
   have o:=(d k (.head _)).1
   have p:=(d k (.head _)).2
   obtain⟨w,q⟩:=lset (D:=D) o (by omega)
   simp only[G0i,G0h]at l g
   have f:lidx (pre++k::r) (pre.length:Int)=some k:=by
    rw[Z4u]
    simp
   rw[Z3z]
   try dsimp only
   rw[G0e (by simp only[G0i,G0h];omega),Q0b,f,G0a,Q8j o p,G0a,(X3b hs _ _).1,G0a]
   try dsimp only
   rw[q,G0a,wr1 (by omega) (by omega)]
   have:=V6h hs hT e i r (pre++[k]) m (hre S a (tp T k).text_).2.1 (D.set k.toNat (hre S a (tp T k).text_).1) (by omega) (by rw[G2s];exact hD) (by simp only[G0i,G0h,G0j];omega) (λx f=>d x (.tail _ f))
   rw[G0z,List.singleton_append,G0i,G0h,G0j]at this
   exact this
theorem K4d(hs:S.length<=1000000)(hT:T.length<=1000000)(d:Int×Int×List Str->Option (List Str))(i:Nat)(f:i<=T.length):∀ (n k m:Nat) (a:Int) (D:List Str),
 k+n=i->n<m->D.length=T.length->
 iter (Z7f (i:Int) T S d) m (a,(k:Int),D)=d ((i:Int),IntKind.wrap .i64 ((i:Int)+1),dst S T (hk T k n) a D)
 | 0,k,m+1,a,D,g,l,hD=>by
   show Z7f _ _ _ _ _ _=_
   rw[Z7f]
   try dsimp only
   rw[G0d (by omega),Q0a,hk,dst]
 | n+1,k,m+1,a,D,g,l,hD=>by
   show Z7f _ _ _ _ _ _=_
   obtain⟨w,o⟩:=lset (D:=D) (k:=(k:Int)) (by omega) (by omega)
   rw[Z7f]
   try dsimp only
   rw[G0e (by omega),Q0b,Q8j (by omega) (by omega),G0a,wr1 (by omega) (by omega),hk]
   by_cases e:(tp T (k:Int)).kind_=4
   ·rw[G0e e,Q0b,if_pos e,(X3b hs _ _).2.1,G0a]
    try dsimp only
    rw[o,G0a,dst]
    exact K4d hs hT d i f n (k+1) m _ _ (by omega) (by omega) (by rw[G2s];exact hD)
   rw[G0d e,Q0a,if_neg e]
   exact K4d hs hT d i f n (k+1) m _ _ (by omega) (by omega) hD
theorem X3d(T:List Token):∀ (n k:Nat),∀x∈hk T k n,0<=x/\x<((k+n:Nat):Int)
 | 0,k,x,h=>by cases h
 | n+1,k,x,h=>by
   rw[hk]at h
   split at h
   ·rcases G1q.1 h with rfl|h
    ·omega
    have:=X3d T n (k+1) x h
    omega
   have:=X3d T n (k+1) x h
   omega
theorem Z1r(hs:S.length<=1000000)(hT:T.length<=1000000):∀ (n i f m a:Nat) (D:List Str),i+n=T.length->f<=i->n<m->n<a->D.length=T.length->(∀d∈D,d.length<=1000000)->
 ∃l,iter (Q8y T S) m ((i:Int),D,hk T f (i-f))=some l/\iter (Z0e T S) a ((f:Int),(i:Int),D)=some l/\l.length=T.length/\∀d∈l,d.length<=1000000
 | 0,i,f,m+1,a+1,D,q,s,t,u,hD,hd=>by
   refine⟨D,?_,?_,hD,hd⟩
   ·show Q8y _ _ _ _=_
    rw[Q8y]
    try dsimp only
    rw[G0d (by omega),Q0a]
   show Z0e _ _ _ _=_
   rw[Z0e]
   try dsimp only
   rw[G0d (by omega),Q0a]
 | n+1,i,f,m+1,a+1,D,q,s,t,u,hD,hd=>by
   have x:iter (Q8y T S) (m+1) ((i:Int),D,hk T f (i-f))=Q8y T S (iter (Q8y T S) m) ((i:Int),D,hk T f (i-f)):=rfl
   have y:iter (Z0e T S) (a+1) ((f:Int),(i:Int),D)=Z0e T S (iter (Z0e T S) a) ((f:Int),(i:Int),D):=rfl
   rw[x,y,Q8y,Z0e]
   try dsimp only
   have g:=X3c T (i-f) f
   rw[show i-f+1=i+1-f by omega,show f+(i-f)=i by omega]at g
   have F:=X9q T (i-f) f
   rw[G0e (show(i:Int)<T.length by omega),Q0b,Q0b,Q8j (by omega) (by omega),G0a,G0a]
   by_cases e:(tp T (i:Int)).kind_=4
   ·rw[if_pos e]at g
    rw[G0e e,Q0b,G0d (show ¬ (tp T (i:Int)).kind_=3 by rw[e];decide),G0q,Q0b,Q0n (by simp only[G0h,G0j];omega),G0a,<-g,wr1 (by omega) (by omega)]
    exact Z1r hs hT n (i+1) f m a D (by omega) (by omega) (by omega) (by omega) hD hd
   rw[if_neg e,G1s]at g
   rw[G0d e,Q0a]
   by_cases o:(tp T (i:Int)).kind_=3
   ·rw[G0e o,Q0b,G0u,Q0a]
    have p:=V6h hs hT (iter (Q8y T S) m) (i:Int) (hk T f (i-f)) [] BIG (IntKind.wrap .i64 ((tp T (i:Int)).at_+1)) D (by unfold BIG;omega) hD (by rw[G1y];omega) (λk z=>by have:=X3d T (i-f) f k z;omega)
    have A:=K4d hs hT (iter (Z0e T S) a) i (by omega) (i-f) f BIG (IntKind.wrap .i64 ((tp T (i:Int)).at_+1)) D (by omega) (by unfold BIG;omega) hD
    rw[G1y]at p
    have C:iter (Z3z (hk T f (i-f)) T S (iter (Q8y T S) m) (i:Int)) BIG (IntKind.wrap .i64 ((tp T (i:Int)).at_+1),0,D)=_:=p
    rw[C,A,wr1 (by omega) (by omega)]
    have E:([]:List Int)=hk T i (i+1-i):=by
     rw[show i+1-i=1 by omega,hk,if_neg e,hk]
    rw[E]
    exact Z1r hs hT n (i+1) i m a _ (by omega) (by omega) (by omega) (by omega) (by rw[X3y];exact hD) (J3e hs T _ _ _ hd)
   rw[G0d o,Q0a,G0q,Q0b,wr1 (by omega) (by omega),<-g]
   exact Z1r hs hT n (i+1) f m a D (by omega) (by omega) (by omega) (by omega) hD hd
theorem K3v(hs:S.length<=1000000)(hT:T.length<=1000000):∃D,F46 S T=some D/\F23 S T=some D/\D.length=T.length/\∀d∈D,d.length<=1000000:=by
 obtain⟨D,e,f,g,k⟩:=Z1r hs hT T.length 0 0 BIG BIG (List.replicate (Int.toNat (T.length:Int)) ([]:Str)) (by omega) (G0o _) (by unfold BIG;omega) (by unfold BIG;omega) (by rw[G1w,G2o]) (λd hd=>by rw[(G6p.1 hd).2];exact G2l _)
 have a:mkO 16 (T.length:Int)=some ():=by
  rw[mkO,if_pos ⟨by omega,by omega⟩]
 refine⟨D,?_,?_,g,k⟩
 ·rw[F46,a,G0a]
  exact e
 rw[F23,a,G0a]
 exact f
end
end Go.Abs.U48
namespace Go.Abs.U48
open Go Go.Proofs
theorem X7g{n:Nat}(h:n<64):Lib.decDigits n=numS n:=by
 rw[numS]
 split
 ·rw[Lib.decDigits_one (by omega)]
 rw[Lib.decDigits_two (by omega) (by omega)]
theorem Z7m{x:Str}(d:x.length<=1000000)(h:F166 x=some true):∃n,n<64/\x=numS n:=by
 obtain⟨n,a,e⟩:=Lx.F67_num d h
 exact⟨n,a,e.trans (X7g a)⟩
theorem K5j{a w:Str}(f:(93:UInt8)∉a)(m:a.length<=1000000):F125 (91::(a++93::w)) true=((F166 (Lib.cut a [61]).1).bind λd=>
 (Q0e (((d&&(Lib.cut a [61]).2.2)&&true)&&!decide ((Lib.cut a [61]).2.1=[])) (F166 (Lib.cut a [61]).2.1)).bind λg=>
 (bif (!d||((Lib.cut a [61]).2.2&&(!true||(!decide ((Lib.cut a [61]).2.1=[])&&!g))))then some 0 else some ((a.length+2:Nat):Int))):=by
 have k:(93:Int).toNat.toUInt8=93:=by decide
 have l:=Lx.indexByte_at 93 w (91::a) (by simp only[G1q,not_or];exact⟨by decide,f⟩)
 have hs:Q0m (91::(a++93::w)) 1 ((91::a).length:Int)=some a:=Lx.sslice_part [91] a (93::w)
 unfold F125
 rw[Q0h,G0a,k]
 rw[show(91::(a++93::w):Str)=(91::a)++93::w from rfl,l,G0d (by omega),Q0a]
 rw[show((91::a)++93::w:Str)=91::(a++93::w) from rfl,hs,G0a,Z4k,if_pos (by omega),G0a]
 rw[Q0f (by omega) (by simp;omega)]
 have e:((91::a).length:Int)+1=((a.length+2:Nat):Int):=by simp;omega
 rw[e]
def BR(tl:Str):Prop:=(∃n,n<64/\tl=91::(numS n++[93]))\/(∃n,n<64/\tl=91::(numS n++[61,93]))\/∃n m,n<64/\m<64/\tl=91::(numS n++61::(numS m++[93]))
theorem V6f{r:Str}(F:r.length<=1000000)(h:Lx.brk (91::r) true≠0):BR ((91::r).take (Lx.brk (91::r) true)):=by
 rcases Lx.firstOf 93 r with o|⟨a,w,o,rfl⟩
 ·exact absurd (by rw[Lx.brk,Lx.F51_free true o];rfl) h
 have s:a.length<=1000000:=by simp only[G0i]at F;omega
 have z:=K5j (w:=w) o s
 have H:∃x y ok,Lib.cut a [61]=(x,y,ok)/\F166 x=some true/\(ok=false\/y=[]\/F166 y=some true)/\Lx.brk (91::(a++93::w)) true=a.length+2:=by
  obtain⟨M,O⟩:=Lx.cut_len a 61
  obtain⟨I,A⟩:=Lx.F67_tot (Lib.cut a [61]).1 (by omega)
  obtain⟨J,k⟩:=Lx.F67_tot (Lib.cut a [61]).2.1 (by omega)
  refine⟨(Lib.cut a [61]).1,(Lib.cut a [61]).2.1,(Lib.cut a [61]).2.2,rfl,?_⟩
  rw[A,k]
  rw[A,k,G0a]at z
  rw[Lx.brk]at h |-
  rw[z]at h |-
  revert h
  cases I with
  | false=>
    intro h
    exact absurd rfl h
  | true=>
  cases Q:(Lib.cut a [61]).2.2 with
  | false=>
    intro h
    exact⟨rfl,.inl rfl,rfl⟩
  | true=>
  by_cases f:(Lib.cut a [61]).2.1=[]
  ·rw[f,G0e rfl]
   intro h
   exact⟨rfl,.inr (.inl rfl),rfl⟩
  rw[G0d f]
  cases J with
  | false=>
    intro h
    exact absurd rfl h
  | true=>
    intro h
    exact⟨rfl,.inr (.inr rfl),rfl⟩
 obtain⟨x,y,ok,d,g1,g,g3⟩:=H
 rw[g3]
 have K:(91::(a++93::w):Str).take (a.length+2)=91::(a++[93]):=by
  rw[G3r,List.take_append,G3v (by omega),show a.length+1-a.length=1 by omega]
  rfl
 rw[K]
 rcases Lx.firstOf 61 a with t|⟨p,q,t,rfl⟩
 ·rw[Lx.cut_free t]at d
  injection d with u d
  injection d with f C
  subst u
  obtain⟨n,l,e⟩:=Z7m s g1
  exact .inl ⟨n,l,by rw[e]⟩
 rw[Lx.cut_at q t]at d
 injection d with u d
 injection d with f C
 subst u f C
 have E:p.length<=1000000/\q.length<=1000000:=by simp only[G0i,G0h]at s;omega
 obtain⟨n,l,e⟩:=Z7m E.1 g1
 rcases g with g|rfl|g
 ·cases g
 ·exact .inr (.inl ⟨n,l,by rw[e];simp⟩)
 obtain⟨m,L,k⟩:=Z7m E.2 g
 exact .inr (.inr ⟨n,m,l,L,by rw[e,k];simp⟩)
theorem X0p{t s:Str}(g:t.length<=1000000):∀d:List Str,(∀w∈d,w=[62,62]\/w=[62]\/w=[60]\/w=[124])->Lx.symB d t=.ok s->c0 s=60\/c0 s=62->RD s
 | [],_,h,a=>by
   simp only[Lx.symB,G5w]at h
   subst h
   exact absurd a (by decide)
 | w::d,k,h,a=>by
   rw[Lx.symB]at h
   cases e:w.isPrefixOf t with
   | false=>
     rw[e,Q0a]at h
     exact X0p g d (λx o=>k x (.tail _ o)) h a
   | true=>
     obtain⟨u,p⟩:=G2c.1 e
     subst p
     rw[e,Q0b,List.drop_left]at h
     by_cases f:w=[124]
     ·subst f
      exfalso
      revert h
      cases([91]:Str).isPrefixOf u with
      | false=>
        rw[Q0a]
        intro h
        injection h with h
        subst h
        exact absurd a (by decide)
      | true=>
        rw[Q0b]
        intro h
        split at h
        ·cases h
        injection h with h
        subst h
        rw[List.take_append]at a
        have:∀ (n:Nat) (m:Str),1<=n->c0 (List.take n ([124]:Str)++m)=124:=by
         intro n m q
         rw[G3v (show([124]:Str).length<=n from q)]
         rfl
        have y:∀m,1<=([124]:Str).length+m:=λm=>Nat.le_add_right 1 m
        rcases a with a|a<;>exact absurd ((this _ _ (y _)).symm.trans a) (by decide)
     have l:w=[60]\/w=[62]\/w=[62,62]:=by
      rcases k w (.head _)with rfl|rfl|rfl|rfl
      ·exact .inr (.inr rfl)
      ·exact .inr (.inl rfl)
      ·exact .inl rfl
      exact absurd rfl f
     rw[G0d f,G0q]at h
     revert h
     cases hb:([91]:Str).isPrefixOf u with
     | false=>
       rw[Q0a]
       intro h
       injection h with h
       subst h
       exact⟨w,[],l,by simp,.inl rfl⟩
     | true=>
       rw[Q0b]
       intro h
       obtain⟨v,z⟩:=G2c.1 hb
       have A:u=91::v:=z.symm
       subst A
       split at h
       ·cases h
       rename_i C
       injection h with h
       subst h
       have E:v.length<=1000000:=by simp only[G0i,G0h]at g;omega
       refine⟨w,(91::v).take (Lx.brk (91::v) true),l,?_,.inr (V6f E C)⟩
       rw[List.take_length_add_append]
theorem X0q{t s:Str}(f:t.length<=1000000):∀d:List Str,(∀w∈d,c0 w≠60/\c0 w≠62)->Lx.symA d t=.ok s->c0 s=60\/c0 s=62->RD s
 | [],_,h,a=>by
   cases t with
   | nil=>
     simp only[Lx.symA,G5w]at h
     subst h
     exact absurd a (by decide)
   | cons c r=>
     rw[Lx.symA]at h
     cases hs:Lx.START.contains c with
     | false=>
       rw[hs,Q0a]at h
       exact X0p f _ (λw e=>by simpa using e) h a
     | true=>
       rw[hs,Q0b]at h
       injection h with h
       subst h
       exfalso
       have:∀c:UInt8,Lx.START.contains c=true->¬ (c0 [c]=60\/c0 [c]=62):=by
        intro c a
        simp only[Lx.START,G4e,G5y,G2n,G2r,G3h]at a
        rcases a with rfl|rfl|rfl|rfl|rfl|rfl|rfl|rfl|rfl|rfl|rfl|rfl<;>decide
       exact this c hs a
 | w::d,e,h,a=>by
   rw[Lx.symA]at h
   cases g:w.isPrefixOf t with
   | false=>
     rw[g,Q0a]at h
     exact X0q f d (λx k=>e x (.tail _ k)) h a
   | true=>
     rw[g,Q0b]at h
     injection h with h
     subst h
     have:=e w (.head _)
     rcases a with a|a
     ·exact absurd a this.1
     exact absurd a this.2
theorem K5v{t s:Str}(d:t.length<=1000000)(h:Lx.sym t=.ok s)(e:c0 s=60\/c0 s=62):RD s:=
 X0q d _ (λw a=>by
  simp only[G1q,G6x,or_false]at a
  rcases a with rfl|rfl|rfl<;>decide) h e
def okK(t:Token):Prop:=t.text_.length<=1000000/\t.quoted_.length<=1000000/\(t.kind_=2->t.text_≠[]/\(c0 t.text_=60\/c0 t.text_=62->RD t.text_))
theorem Q9i{l l':List Token}{u:Token}(h:Lx.push l u=.ok l')(d:∀t∈l,okK t)(e:okK u):∀t∈l',okK t:=by
 rw[(Lx.push_ok h).1]
 intro t a
 rcases G2v.1 a with a|a
 ·exact d t a
 rw[G4d.1 a]
 exact e
theorem X3f{l l':List Token}{u:Token}{tc:Bool}(h:Lx.hat l u tc=.ok l')(f:∀t∈l,okK t)(g:okK u):∀t∈l',okK t:=by
 rw[Lx.hat]at h
 cases a:Lx.hats u tc with
 | false=>
   rw[a,Q0a]at h
   exact Q9i h f g
 | true=>
   rw[a,Q0b]at h
   cases d:Lx.push l ⟨2,u.at_,[94],[]⟩with
   | error e=>rw[d]at h;cases h
   | ok k=>
     rw[d]at h
     exact Q9i h (Q9i d f ⟨by show([94]:Str).length<=_;decide,by show([]:Str).length<=_;decide,λ_=>⟨by show([94]:Str)≠[];decide,λa=>absurd a (by show ¬ (c0 [94]=60\/c0 [94]=62);decide)⟩⟩) g
theorem K1k{p:Nat}{t:Str}{l l':List Token}{tc:Bool}{m:Nat}(g:t.length<=1000000)(h:Lx.tok p t l tc=.ok (l',m))(k:∀t∈l,okK t):∀t∈l',okK t:=by
 rw[Lx.tok]at h
 cases hs:Lx.sym t with
 | error e=>rw[hs]at h;cases h
 | ok s=>
   rw[hs]at h
   cases s with
   | nil=>
     dsimp only at h
     cases f:Lx.wd t.length t with
     | error e=>rw[f]at h;cases h
     | ok x=>
       obtain⟨x,q,n⟩:=x
       rw[f]at h
       dsimp only at h
       obtain⟨g1,C,g3⟩:=Lx.wd_len _ _ _ _ _ f
       cases a:Lx.hat l ⟨1,p,x,q⟩ tc with
       | error e=>rw[a]at h;cases h
       | ok o=>
         rw[a]at h
         injection h with h
         injection h with h u
         subst h
         exact X3f a k ⟨by show x.length<=_;omega,by show q.length<=_;omega,λh=>absurd h (by show ¬ (1:Int)=2;decide)⟩
   | cons c w=>
     dsimp only at h
     have z:(c::w).length<=1000000:=G3u (Lx.sym_pre hs).length_le g
     cases a:Lx.hat l ⟨2,p,c::w,[]⟩ tc with
     | error e=>rw[a]at h;cases h
     | ok o=>
       rw[a]at h
       have y:=X3f a k ⟨z,by show([]:Str).length<=_;decide,λ_=>⟨by show c::w≠[];exact List.cons_ne_nil _ _,λA=>K5v g hs A⟩⟩
       dsimp only at h
       cases hd:(decide (c::w=[36])||decide (c::w=[36,35]))with
       | false=>
         rw[hd,Q0a]at h
         injection h with h
         injection h with h u
         subst h
         exact y
       | true=>
         rw[hd,Q0b]at h
         cases d:Lx.name (p+(c::w).length) (t.drop (c::w).length) o with
         | error e=>rw[d]at h;cases h
         | ok E=>
           rw[d]at h
           injection h with h
           injection h with h u
           subst h
           rw[Lx.name]at d
           split at d
           ·cases d
           have:=Lx.nameN_le (t.drop (c::w).length)
           simp only[G0p]at this
           exact Q9i d y ⟨by show(List.take _ _).length<=_;rw[G1h,G0p];omega,by show(List.replicate _ _).length<=_;rw[G1w];omega,λh=>absurd h (by show ¬ (1:Int)=2;decide)⟩
theorem X7q{p:Nat}{t:Str}{l l':List Token}{g k:List Str}{m:Nat}(s:t.length<=1000000)(h:Lx.here p t l g=.ok (l',k,m))(o:∀t∈l,okK t):∀t∈l',okK t:=by
 rw[Lx.here]at h
 cases a:Lx.wd (t.drop (2+Lx.blankN (t.drop 2))).length (t.drop (2+Lx.blankN (t.drop 2)))with
 | error e=>rw[a]at h;cases h
 | ok x=>
   obtain⟨x,q,n⟩:=x
   rw[a]at h
   dsimp only at h
   obtain⟨g1,u,g3⟩:=Lx.wd_len _ _ _ _ _ a
   rw[G0p]at g1
   cases f:decide (n=0)with
   | true=>rw[f,Q0b]at h;cases h
   | false=>
     rw[f,Q0a]at h
     cases d:Lx.push l ⟨4,p,x,q⟩with
     | error e=>rw[d]at h;cases h
     | ok y=>
       rw[d]at h
       injection h with h
       injection h with h z
       subst h
       exact Q9i d o ⟨by show x.length<=_;omega,by show q.length<=_;omega,λh=>absurd h (by show ¬ (4:Int)=2;decide)⟩
theorem K2s{p:Nat}{t:Str}{l l':List Token}{d:List Str}{m:Nat}(h:Lx.nls p t l d=.ok (l',m))(f:∀t∈l,okK t):∀t∈l',okK t:=by
 rw[Lx.nls]at h
 cases a:Lx.push l ⟨3,p,[10],[]⟩with
 | error e=>rw[a]at h;cases h
 | ok g=>
   rw[a]at h
   dsimp only at h
   cases hd:Lx.docs d (t.drop 1)with
   | error e=>obtain⟨o,c⟩:=e;rw[hd]at h;cases h
   | ok n=>
     rw[hd]at h
     injection h with h
     injection h with h k
     subst h
     exact Q9i a f ⟨by show([10]:Str).length<=_;decide,by show([]:Str).length<=_;decide,λh=>absurd h (by show ¬ (3:Int)=2;decide)⟩
theorem Z5w:∀ (k p:Nat) (t:Str) (l:List Token) (d:List Str) (l':List Token),t.length<=1000000->Lx.lex k p t l d=.ok l'->(∀t∈l,okK t)->∀t∈l',okK t
 | 0,p,t,l,d,l',z,h,f=>by cases h
 | k+1,p,t,l,d,l',z,h,f=>by
   rw[Lx.lex]at h
   cases hd:t.drop (Lx.blankN t)with
   | nil=>
     rw[hd]at h
     dsimp only at h
     cases a:decide (0<d.length)with
     | true=>rw[a,Q0b]at h;cases h
     | false=>
       rw[a,Q0a]at h
       injection h with h
       subst h
       exact f
   | cons c r=>
     rw[hd]at h
     dsimp only at h
     have o:(c::r).length<=1000000:=by
      rw[<-hd,G0p]
      omega
     have g:∀n,((c::r).drop n).length<=1000000:=λn=>by
      rw[G0p]
      omega
     cases q:decide (c=35)with
     | true=>
       rw[q,Q0b]at h
       exact Z5w k _ _ _ _ _ (g _) h f
     | false=>
     rw[q,Q0a]at h
     cases s:decide (c=10)with
     | true=>
       rw[s,Q0b]at h
       cases a:Lx.nls (p+Lx.blankN t) (c::r) l d with
       | error e=>rw[a]at h;cases h
       | ok x=>
         obtain⟨u,m⟩:=x
         rw[a]at h
         exact Z5w k _ _ _ _ _ (g _) h (K2s a f)
     | false=>
     rw[s,Q0a]at h
     cases y:([60,60]:Str).isPrefixOf (c::r)with
     | true=>
       rw[y,Q0b]at h
       cases a:Lx.here (p+Lx.blankN t) (c::r) l d with
       | error e=>rw[a]at h;cases h
       | ok x=>
         obtain⟨u,A,m⟩:=x
         rw[a]at h
         exact Z5w k _ _ _ _ _ (g _) h (X7q o a f)
     | false=>
     rw[y,Q0a]at h
     cases a:Lx.tok (p+Lx.blankN t) (c::r) l (Lx.lastWord l&&decide (Lx.blankN t=0))with
     | error e=>rw[a]at h;cases h
     | ok x=>
       obtain⟨u,m⟩:=x
       rw[a]at h
       exact Z5w k _ _ _ _ _ (g _) h (K1k o a f)
theorem K6g{T:List Token}{D:List Str}(hT:T.length<=1000000)(h:∀t∈T,okK t)(hD:D.length=T.length)(hd:∀d∈D,d.length<=1000000):OkR T D:=
 ⟨⟨hT,λt a=>⟨(h t a).1,(h t a).2.1⟩,λt a hk=>((h t a).2.2 hk).1⟩,λt a hk e=>((h t a).2.2 hk).2 e,hD,hd⟩
end Go.Abs.U48
namespace Go.Abs.U48
open Go Go.Proofs
mutual
def zW:Word->Word
 | ⟨k,t,q,a,cs⟩=>⟨k,t,q,zWs a,zCs cs⟩
def zWs:List Word->List Word
 | []=>[]
 | w::r=>zW w::zWs r
def zC:Cmd->Cmd
 | ⟨k,_,n,a,rs,ks⟩=>⟨k,0,n,zWs a,zRs rs,zCs ks⟩
def zCs:List Cmd->List Cmd
 | []=>[]
 | c::r=>zC c::zCs r
def zR:Redir->Redir
 | ⟨k,f,g,w,r⟩=>⟨k,f,g,zW w,r⟩
def zRs:List Redir->List Redir
 | []=>[]
 | r::s=>zR r::zRs s
end
theorem K5k(w:Word):zW w=⟨w.kind_,w.text_,w.quoted_,zWs w.words_,zCs w.cmd_⟩:=by obtain⟨_,_,_,a,cs⟩:=w;rw[zW]
theorem K5m(c:Cmd):zC c=⟨c.kind_,0,c.name_,zWs c.words_,zRs c.redirs_,zCs c.kids_⟩:=by obtain⟨_,_,_,a,rs,ks⟩:=c;rw[zC]
theorem K5l(r:Redir):zR r=⟨r.kind_,r.fd_,r.from_,zW r.word_,r.raw_⟩:=by obtain⟨_,_,_,w,_⟩:=r;rw[zR]
theorem Z4z:∀l,zWs l=l.map zW
 | []=>by rw[zWs];rfl
 | x::r=>by rw[zWs,Z4z r];rfl
theorem Z5a:∀l,zCs l=l.map zC
 | []=>by rw[zCs];rfl
 | x::r=>by rw[zCs,Z5a r];rfl
theorem Z0f:∀l,zRs l=l.map zR
 | []=>by rw[zRs];rfl
 | x::r=>by rw[zRs,Z0f r];rfl
theorem K1f{a b:List Word}(h:zWs a=zWs b):a.length=b.length:=by
 rw[Z4z,Z4z]at h
 simpa using G3t List.length h
theorem K1h{a b:List Cmd}(h:zCs a=zCs b):a.length=b.length:=by
 rw[Z5a,Z5a]at h
 simpa using G3t List.length h
theorem K1g{a b:List Redir}(h:zRs a=zRs b):a.length=b.length:=by
 rw[Z0f,Z0f]at h
 simpa using G3t List.length h
theorem X2j{α β:Type}{f:α->β}{a b:List α}(h:a.map f=b.map f){i:Int}(e:0<=i)(k:i<a.length):∃x y,lidx a i=some x/\lidx b i=some y/\f x=f y/\x∈a:=by
 have m:a.length=b.length:=by simpa using G3t List.length h
 have d:i.toNat<a.length:=by omega
 have g:i.toNat<b.length:=by omega
 refine⟨a[i.toNat],b[i.toNat],?_,?_,?_,G2u d⟩
 ·rw[lidx,if_pos e,G0c d]
 ·rw[lidx,if_pos e,G0c g]
 have:=G3t (λl=>l[i.toNat]?) h
 simp only[G0x,G0c d,G0c g,G0w,G0b]at this
 exact this
theorem X1q(a:List Word->List Word->Option Bool)(d:Int->Option Bool)(u e:Cmd)(f:zRs u.redirs_=zRs e.redirs_)(l:∀x y:Word,zW x=zW y->nW x<=nRs u.redirs_->a [x] [y]=some true)(hb:u.redirs_.length<=1000000)(i:Int):
 ∀ (k m:Nat) (j:Int),0<=j->(u.redirs_.length:Int)<=j+k->k<m->j<=2000000->iter (Z9n u e a d i) m j=d (IntKind.wrap .i64 (i+1))
 | k,0,_,_,_,q,_=>absurd q (G1t _)
 | k,m+1,j,s,F,H,I=>by
   show Z9n u e a d i (iter (Z9n u e a d i) m) j=_
   rw[Z9n]
   by_cases g:j<(u.redirs_.length:Int)
   ·rw[Z0f,Z0f]at f
    obtain⟨x,y,t,z,o,A⟩:=X2j f s g
    rw[K5l,K5l]at o
    injection o with g1 C g3 g4 E
    have p:=Z1j A
    rw[Z4i]at p
    rw[G0e g,Q0b,t,G0a,z,G0a,g1,C,g3,E,l _ _ g4 p]
    simp only[G4n,G0u,beq_self_eq_true,G2n,G0q,Q0g,G0a,Q0a]
    rw[Q0f (by omega) (by omega)]
    cases k with
    | zero=>omega
    | succ k=>
      rw[<-Z0f,<-Z0f]at f
      exact X1q a d u e f l hb i k m (j+1) (by omega) (by omega) (by omega) (by omega)
   rw[G0d g,Q0a]
theorem X1j:∀n:Nat,(∀a b:List Word,zWs a=zWs b->nWs a<n->nWs a<=40000->K26 n a b=some true)/\(∀a b:List Cmd,zCs a=zCs b->nCs a<n->nCs a<=40000->K10 n a b=some true)
 | 0=>⟨λ_ _ _ h=>absurd h (G1t _),λ_ _ _ h=>absurd h (G1t _)⟩
 | n+1=>by
   obtain⟨iw,ic⟩:=X1j n
   refine⟨λa b d I hb=>?_,λa b d I hb=>?_⟩
   ·show F26 (K10 n) (K26 n) a b=_
    have o:=K1f d
    have J:=Q7g a
    rw[F26,o,G0e rfl]
    simp only[G0u,Q0a]
    rw[Z4z,Z4z]at d
    have loop:∀ (k m:Nat) (j:Int),0<=j->(a.length:Int)<=j+k->k<m->j<=100000->iter (Z4b a b (K26 n) (K10 n)) m j=some true:=by
     intro k
     induction k with
     | zero=>
       intro m j f s t u
       cases m with
       | zero=>omega
       | succ m=>
         show Z4b a b (K26 n) (K10 n) _ j=_
         rw[Z4b,G0d (by omega),Q0a]
     | succ k z=>
       intro m j f s t u
       cases m with
       | zero=>omega
       | succ m=>
         show Z4b a b (K26 n) (K10 n) (iter (Z4b a b (K26 n) (K10 n)) m) j=_
         rw[Z4b]
         by_cases e:j<(a.length:Int)
         ·obtain⟨x,y,A,C,g,E⟩:=X2j d f e
          rw[K5k,K5k]at g
          injection g with g1 H g3 g4 l
          have F:=Q6r E
          rw[Q6s]at F
          rw[G0e e,Q0b,A,G0a,C,G0a,g1,H,g3,iw _ _ g4 (by omega) (by omega),ic _ _ l (by omega) (by omega)]
          simp only[G4n,G0u,G2n,G0q,Q0g,G0a,Q0a]
          rw[Q0f (by omega) (by omega)]
          exact z m (j+1) (by omega) (by omega) (by omega) (by omega)
         rw[G0d e,Q0a]
    exact loop a.length BIG 0 (by omega) (by omega) (by unfold BIG;omega) (by omega)
   show F10 (K10 n) (K26 n) a b=_
   have o:=K1h d
   have J:=Q7h a
   rw[F10,o,G0e rfl]
   simp only[G0u,Q0a]
   rw[Z5a,Z5a]at d
   have loop:∀ (k m:Nat) (j:Int),0<=j->(a.length:Int)<=j+k->k<m->j<=100000->iter (Z4e a b (K26 n) (K10 n)) m j=some true:=by
    intro k
    induction k with
    | zero=>
      intro m j f s t u
      cases m with
      | zero=>omega
      | succ m=>
        show Z4e a b (K26 n) (K10 n) _ j=_
        rw[Z4e,G0d (by omega),Q0a]
    | succ k z=>
      intro m j f s t u
      cases m with
      | zero=>omega
      | succ m=>
        show Z4e a b (K26 n) (K10 n) (iter (Z4e a b (K26 n) (K10 n)) m) j=_
        rw[Z4e]
        by_cases e:j<(a.length:Int)
        ·obtain⟨x,y,A,C,g,E⟩:=X2j d f e
         rw[K5m,K5m]at g
         injection g with g1 H g3 g4 l K
         have F:=Q8i E
         rw[Q3r]at F
         have M:=Z0k x.redirs_
         rw[G0e e,Q0b,A,G0a,C,G0a,g1,g3,iw _ _ g4 (by omega) (by omega),ic _ _ K (by omega) (by omega),K1g l]
         simp only[G4n,G0u,G2n,G0q,Q0g,G0a,Q0a]
         rw[X1q (K26 n) _ x y l (λp q L O=>iw [p] [q] (by rw[zWs,zWs,zWs,L];rw[zWs]) (by rw[nWs,nWs];omega) (by rw[nWs,nWs];omega)) (by omega) j x.redirs_.length BIG 0 (by omega) (by omega) (by unfold BIG;omega) (by omega)]
         rw[Q0f (by omega) (by omega)]
         exact z m (j+1) (by omega) (by omega) (by omega) (by omega)
        rw[G0d e,Q0a]
   exact loop a.length BIG 0 (by omega) (by omega) (by unfold BIG;omega) (by omega)
theorem J0j{α:Type}{a:List α}{i:Int}(e:0<=i)(f:i<a.length):∃x,lidx a i=some x/\x∈a:=by
 have d:i.toNat<a.length:=by omega
 exact⟨a[i.toNat],by rw[lidx,if_pos e,G0c d],G2u d⟩
theorem X2b(a:List Word->List Word->Option Bool)(d:Int->Option Bool)(u:Cmd)(f:∀x:Word,nW x<=nRs u.redirs_->a [x] [x]=some true)(hb:u.redirs_.length<=1000000)(i:Int):
 ∀ (k m:Nat) (j:Int),0<=j->(u.redirs_.length:Int)<=j+k->k<m->j<=2000000->iter (Z9m u u a d i) m j=d (IntKind.wrap .i64 (i+1))
 | k,0,_,_,_,l,_=>absurd l (G1t _)
 | k,m+1,j,o,s,t,y=>by
   show Z9m u u a d i (iter (Z9m u u a d i) m) j=_
   rw[Z9m]
   by_cases e:j<(u.redirs_.length:Int)
   ·obtain⟨x,p,q⟩:=J0j o e
    have g:=Z1j q
    rw[Z4i]at g
    rw[G0e e,Q0b,p,G0a,G0a,f _ g,G0a]
    simp only[G0u,Q0a]
    rw[Q0f (by omega) (by omega)]
    cases k with
    | zero=>omega
    | succ k=>exact X2b a d u f hb i k m (j+1) (by omega) (by omega) (by omega) (by omega)
   rw[G0d e,Q0a]
theorem J2p:∀n:Nat,(∀a:List Word,nWs a<n->nWs a<=40000->K27 n a a=some true)/\(∀a:List Cmd,nCs a<n->nCs a<=40000->K11 n a a=some true)
 | 0=>⟨λ_ h=>absurd h (G1t _),λ_ h=>absurd h (G1t _)⟩
 | n+1=>by
   obtain⟨iw,ic⟩:=J2p n
   refine⟨λa u hb=>?_,λa u hb=>?_⟩
   ·show F27 (K11 n) (K27 n) a a=_
    have y:=Q7g a
    rw[F27]
    have loop:∀ (k m:Nat) (j:Int),0<=j->(a.length:Int)<=j+k->k<m->j<=100000->iter (Z4a a a (K27 n) (K11 n)) m j=some true:=by
     intro k
     induction k with
     | zero=>
       intro m j e f g l
       cases m with
       | zero=>omega
       | succ m=>
         show Z4a a a (K27 n) (K11 n) _ j=_
         rw[Z4a,G0d (by omega),Q0a]
     | succ k o=>
       intro m j e f g l
       cases m with
       | zero=>omega
       | succ m=>
         show Z4a a a (K27 n) (K11 n) (iter (Z4a a a (K27 n) (K11 n)) m) j=_
         rw[Z4a]
         by_cases d:j<(a.length:Int)
         ·obtain⟨x,q,s⟩:=J0j e d
          have t:=Q6r s
          rw[Q6s]at t
          rw[G0e d,Q0b,q,G0a,G0a,iw _ (by omega) (by omega),G0a,Q0g,ic _ (by omega) (by omega),G0a]
          simp only[G0u,G2n,Q0a]
          rw[Q0f (by omega) (by omega)]
          exact o m (j+1) (by omega) (by omega) (by omega) (by omega)
         rw[G0d d,Q0a]
    exact loop a.length BIG 0 (by omega) (by omega) (by unfold BIG;omega) (by omega)
   show F11 (K11 n) (K27 n) a a=_
   have y:=Q7h a
   rw[F11]
   have loop:∀ (k m:Nat) (j:Int),0<=j->(a.length:Int)<=j+k->k<m->j<=100000->iter (Z4d a a (K11 n) (K27 n)) m j=some true:=by
    intro k
    induction k with
    | zero=>
      intro m j e f g l
      cases m with
      | zero=>omega
      | succ m=>
        show Z4d a a (K11 n) (K27 n) _ j=_
        rw[Z4d,G0d (by omega),Q0a]
    | succ k o=>
      intro m j e f g l
      cases m with
      | zero=>omega
      | succ m=>
        show Z4d a a (K11 n) (K27 n) (iter (Z4d a a (K11 n) (K27 n)) m) j=_
        rw[Z4d]
        by_cases d:j<(a.length:Int)
        ·obtain⟨x,q,s⟩:=J0j e d
         have t:=Q8i s
         rw[Q3r]at t
         have z:=Z0k x.redirs_
         rw[G0e d,Q0b,q,G0a,G0a,G0e rfl,Q0g,ic _ (by omega) (by omega),G0a,iw _ (by omega) (by omega)]
         simp only[G0u,G2n,G0q,Q0g,G0a,Q0a]
         rw[X2b (K27 n) _ x (λp A=>iw [p] (by rw[nWs,nWs];omega) (by rw[nWs,nWs];omega)) (by omega) j x.redirs_.length BIG 0 (by omega) (by omega) (by unfold BIG;omega) (by omega)]
         rw[Q0f (by omega) (by omega)]
         exact o m (j+1) (by omega) (by omega) (by omega) (by omega)
        rw[G0d d,Q0a]
   exact loop a.length BIG 0 (by omega) (by omega) (by unfold BIG;omega) (by omega)
end Go.Abs.U48
namespace Go.Abs.U48
open Go Go.Proofs
theorem X6z{S:Str}{T:List Token}(hS:S.length<=1000000)(hT:T.length<=1024)(hk:∀t∈T,okK t):
 ∃D,F23 S T=some D/\((∃n l j,F20 S T=some ([],n,47)/\F24 (K142 BIG) [] S T D 0 0 0=some (l,j,47,n)) \/
  ∃l j,F20 S T=some (l,0,0)/\F24 (K142 BIG) [] S T D 0 0 0=some (l,j,0,0)/\nCs l<=40000):=by
 obtain⟨D,m,o,p,q⟩:=K3v hS (show T.length<=1000000 by omega)
 have k:=K6g (by omega) hk p q
 obtain⟨s,-⟩:=K2w (S:=S) k (2 * T.length+2) (by omega) BIG (by unfold BIG;omega)
 have u:=s 0 (G5e _) (by omega)
 have x:=J4s k.ok u (G5e _) (by simp only[bd];omega) (by simp only[bd];omega) (c:=false) (e:=[]) (.inr ⟨rfl,.inl rfl⟩) (i:=0) (G5e _) (by omega)
 refine⟨D,o,?_⟩
 rw[F20,m,G0a]
 rcases x with⟨n,f,a,j,d,-,-⟩|⟨l,j,f,g1,y,g3,-,⟨d,g⟩|⟨d,a,j',g,-,-⟩⟩
 ·rw[f]
  exact .inl ⟨n,a,j,rfl,d⟩
 ·rw[f]
  dsimp only
  rw[stpT,G0e rfl,Q0b,G0s]at d
  rw[G0d (by omega),Q0a]
  exact .inr ⟨l,j,rfl,g,by omega⟩
 rw[f]
 dsimp only
 rw[stpT,G0e rfl,Q0b,G5v]at d
 rw[G0e (by omega),Q0b,Q8x (by omega)]
 exact .inl ⟨_,a,j',rfl,g⟩
theorem K1v(s:Str)(h:s.length<=4000):∃l p c,F8 s=some (l,p,c)/\F9 s=some (l,p,c)/\nCs l<=40000:=by
 have a:=Lx.F5_eq s (by omega)
 have d:=Lx.F6_eq s (by omega)
 cases f:Lx.lex (s.length+1) 0 s [] []with
 | error e=>
   obtain⟨q,c⟩:=e
   rw[f]at a d
   obtain⟨k,u⟩:=a
   obtain⟨m,-⟩:=d
   refine⟨[],q,c,?_,?_,G2l _⟩
   ·rw[F8,k,G0a]
    dsimp only
    rw[G0d u,G0q,Q0b]
   rw[F9,m,G0a]
   dsimp only
   rw[G0d u,G0q,Q0b]
 | ok T=>
   have hT:=Lx.lex_len _ _ _ _ _ _ (G2l _) f
   have hk:=Z5w _ _ _ _ _ _ (by omega) f (λt z=>by cases z)
   rw[f]at a d
   have k:F19 s=some (T,0,0):=a
   have m:F22 s=some (T,0,0):=d
   obtain⟨D,hD,A⟩:=X6z (S:=s) (by omega) hT hk
   rw[F8,F9,k,m,G0a,G0a]
   dsimp only
   rw[e00,G0u,Q0a,Q0a,hD,G0a]
   rcases A with⟨n,l,j,g1,o⟩|⟨l,j,g1,o,g⟩
   ·rw[g1,o,G0a,G0a]
    dsimp only
    rw[e47,G0q,Q0b,Q0b]
    exact⟨[],n,47,rfl,rfl,G2l _⟩
   rw[g1,o,G0a,G0a]
   dsimp only
   rw[e00,G0u,Q0a,Q0a,V8y l g,G0a,(J6q BIG).2 l (by unfold BIG;omega) g,G0a,(J1y BIG).2 l (by unfold BIG;omega) g]
   by_cases x:szCs l<=1024
   ·rw[G0e x,G0d (show ¬ (1024:Int)<(szCs l:Int)by omega),G0q,Q0g,G0a]
    by_cases y:dCs l<=32
    ·rw[G0e y,G0d (show ¬ (32:Int)<(dCs l:Int)by omega)]
     exact⟨l,0,0,rfl,rfl,g⟩
    rw[G0d y,G0e (show(32:Int)<(dCs l:Int)by omega)]
    exact⟨[],0,4,rfl,rfl,G2l _⟩
   rw[G0d x,G0e (show(1024:Int)<(szCs l:Int)by omega)]
   exact⟨[],0,4,rfl,rfl,G2l _⟩
theorem Z7s(s:Str):F3 s=some true:=by
 rw[F3]
 by_cases h:s.length<=4000
 ·obtain⟨l,p,c,d,e,a⟩:=K1v s h
  rw[G0d (by omega),Q0a,d,e,G0a]
  dsimp only
  rw[G0a]
  dsimp only
  rw[G0e rfl,G0e rfl,G3o,Q0g,(X1j BIG).2 l l rfl (by unfold BIG;omega) a,G0a,G3o,Q0g,(J2p BIG).2 l (by unfold BIG;omega) a,G0a,G3o,Q0g,Z8t]
  rfl
 rw[G0e (by omega),Q0b,Z8t]
 rfl
end Go.Abs.U48
namespace Go.Abs.U48
open Go
theorem law3(s:Str)(w:s.length<=maxLen):F3 s=some true:=Z7s s
end Go.Abs.U48
namespace Go.Abs.U48
open Go Go.Proofs
section
variable (nm:Str)(w r n:Nat)
theorem r0:decide (0<r)=!decide (r=0):=by
 by_cases h:r=0
 ·rw[G0e h,G0d (by omega)];rfl
 rw[G0d h,G0e (by omega)];rfl
end
section
variable (c:Cmd)
end
end Go.Abs.U48
namespace Go.Abs.U48
open Go Go.Proofs
end Go.Abs.U48
