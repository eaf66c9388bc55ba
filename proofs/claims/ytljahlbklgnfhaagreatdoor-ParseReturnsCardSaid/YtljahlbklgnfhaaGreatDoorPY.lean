import Derived.Test.YtljahlbklgnfhaaGreatDoorA35
import Derived.Test.YtljahlbklgnfhaaGreatDoorD1
import Derived.Lib.IndexAny
import Derived.Lib.IndexBytes
import Derived.Lib.IndexLaws
import Derived.Lib.TrimUEq
import Derived.Lib.SplitLaws
import Derived.Test.YtljahlbklgnfhaaGreatDoorAK
import Derived.Test.YtljahlbklgnfhaaGreatDoorTY
import Derived.Test.YtljahlbklgnfhaaGreatDoorA14
set_option linter.unusedVariables false
set_option linter.unusedSimpArgs false
set_option linter.defProp false
namespace Go.Abs.U48
open Go Go.Proofs
mutual
def nW:Word->Nat
 | ⟨_,_,_,ws,cs⟩=>1+nWs ws+nCs cs
def nWs:List Word->Nat
 | []=>0
 | w::r=>nW w+nWs r
def nC:Cmd->Nat
 | ⟨_,_,_,ws,rs,ks⟩=>1+nWs ws+nCs ks+nRs rs
def nCs:List Cmd->Nat
 | []=>0
 | c::r=>nC c+nCs r
def nR:Redir->Nat
 | ⟨_,_,_,w,_⟩=>nW w
def nRs:List Redir->Nat
 | []=>0
 | r::s=>nR r+nRs s
end
theorem Q7h(w:Word):nW w=1+nWs w.words_+nCs w.cmd_:=by obtain⟨_,_,_,ws,cs⟩:=w;rw[nW]
theorem Q3y(c:Cmd):nC c=1+nWs c.words_+nCs c.kids_+nRs c.redirs_:=by obtain⟨_,_,_,ws,rs,ks⟩:=c;rw[nC]
theorem Z3v(r:Redir):nR r=nW r.word_:=by obtain⟨_,_,_,w,_⟩:=r;rw[nR]
mutual
def okW:Word->Prop
 | ⟨_,t,q,ws,cs⟩=>t.length<=maxLen/\q.length<=maxLen/\ws.length<=maxLen/\cs.length<=maxLen/\okWs ws/\okCs cs
def okWs:List Word->Prop
 | []=>True
 | w::r=>okW w/\okWs r
def okC:Cmd->Prop
 | ⟨_,_,nm,ws,rs,ks⟩=>nm.length<=maxLen/\ws.length<=maxLen/\rs.length<=maxLen/\ks.length<=maxLen/\okWs ws/\okRs rs/\okCs ks
def okCs:List Cmd->Prop
 | []=>True
 | c::r=>okC c/\okCs r
def okR:Redir->Prop
 | ⟨_,_,_,w,_⟩=>okW w
def okRs:List Redir->Prop
 | []=>True
 | r::s=>okR r/\okRs s
end
theorem V5n(w:Word):okW w=(w.text_.length<=maxLen/\w.quoted_.length<=maxLen/\w.words_.length<=maxLen/\w.cmd_.length<=maxLen/\okWs w.words_/\okCs w.cmd_):=by obtain⟨_,_,_,ws,cs⟩:=w;rw[okW]
theorem V5p(c:Cmd):okC c=(c.name_.length<=maxLen/\c.words_.length<=maxLen/\c.redirs_.length<=maxLen/\c.kids_.length<=maxLen/\okWs c.words_/\okRs c.redirs_/\okCs c.kids_):=by obtain⟨_,_,_,ws,rs,ks⟩:=c;rw[okC]
theorem V5o(r:Redir):okR r=okW r.word_:=by obtain⟨_,_,_,w,_⟩:=r;rw[okR]
mutual
def smW:Word->Prop
 | ⟨_,t,q,ws,cs⟩=>t.length<=2000/\q.length<=2000/\smWs ws/\smCs cs
def smWs:List Word->Prop
 | []=>True
 | w::r=>smW w/\smWs r
def smC:Cmd->Prop
 | ⟨_,_,nm,ws,rs,ks⟩=>nm.length<=2000/\rs.length<=2000/\smWs ws/\smRs rs/\smCs ks
def smCs:List Cmd->Prop
 | []=>True
 | c::r=>smC c/\smCs r
def smR:Redir->Prop
 | ⟨_,_,_,w,_⟩=>smW w
def smRs:List Redir->Prop
 | []=>True
 | r::s=>smR r/\smRs s
end
theorem Q8h(w:Word):smW w=(w.text_.length<=2000/\w.quoted_.length<=2000/\smWs w.words_/\smCs w.cmd_):=by obtain⟨_,_,_,ws,cs⟩:=w;rw[smW]
theorem Q8i(c:Cmd):smC c=(c.name_.length<=2000/\c.redirs_.length<=2000/\smWs c.words_/\smRs c.redirs_/\smCs c.kids_):=by obtain⟨_,_,_,ws,rs,ks⟩:=c;rw[smC]
theorem X0y(r:Redir):smR r=smW r.word_:=by obtain⟨_,_,_,w,_⟩:=r;rw[smR]
theorem Q0b{α:Type}(x y:α):(bif true then x else y)=x:=rfl
theorem Q0a{α:Type}(x y:α):(bif false then x else y)=y:=rfl
def Cnt(left r:Int)(n:Nat)(a:Prop):Prop:=(-1<=r/\r<=left)/\(0<=r->r+(n:Int)=left/\a)
theorem K7e(l:List Word)(y:l.length<=maxLen)(a:List Word->Int->Option Int)(d:List Cmd->Int->Option Int)(B:Int)(z:B<=2000)
 (g:∀ (x:List Word) (left:Int),-1<=left->left<B->okWs x->x.length<=maxLen->∃r,a x left=some r/\Cnt left r (nWs x) (smWs x))
 (m:∀ (x:List Cmd) (left:Int),-1<=left->left<B->okCs x->x.length<=maxLen->∃r,d x left=some r/\Cnt left r (nCs x) (smCs x)):
 ∀ (n j:Nat) (left:Int),j<=l.length->l.length-j<n->left<=B->-1<=left->okWs (l.drop j)->∃r,iter (J1y l a d) n (left,(j:Int))=some r/\Cnt left r (nWs (l.drop j)) (smWs (l.drop j))
 | 0,j,left,_,h,_,_,_=>by omega
 | n+1,j,left,W,X,Y,aa,e=>by
   unfold maxLen at y
   show ∃r,J1y l a d (iter (J1y l a d) n) (left,(j:Int))=some r/\_
   rw[J1y]
   by_cases f:j<l.length
   ·rw[Q1v f,okWs,V5n]at e
    obtain⟨⟨t1,t2,A,C,E,o2⟩,e⟩:=e
    rw[Q1v f,nWs,smWs,Q7h,Q8h]
    rw[G0h (p:=((j:Int)<(l.length:Int))) (by omega),Q0b,Q0j (n:=left-1) (by omega) (by omega),Q6y f]
    by_cases o:left-1<0
    ·refine⟨-1,?_,by omega,λh=>by omega⟩
     rw[G0h (p:=(left-1<0)) o]
     rfl
    rw[G0b (p:=(left-1<0)) o]
    show ∃r,(bif ((false||decide (2000<(l[j].text_.length:Int)))||decide (2000<(l[j].quoted_.length:Int)))then some (-1)else _)=some r/\_
    by_cases q:l[j].text_.length<=2000/\l[j].quoted_.length<=2000
    ·rw[G0b (p:=(2000<(l[j].text_.length:Int))) (by omega),G0b (p:=(2000<(l[j].quoted_.length:Int))) (by omega),G6s,G6s,Q0a,G0a]
     obtain⟨F,H,a1,I⟩:=g l[j].words_ (left-1) (by omega) (by omega) E A
     rw[H,G0a]
     obtain⟨t,J,a2,K⟩:=m l[j].cmd_ F (by omega) (by omega) o2 C
     rw[J,G0a]
     by_cases u:t<0
     ·rw[G0h u,Q0b]
      exact⟨-1,rfl,by omega,λh=>by omega⟩
     rw[G0b u,Q0a,Q0j (by omega) (by omega)]
     obtain⟨c2,L⟩:=K (by omega)
     obtain⟨c1,M⟩:=I (by omega)
     obtain⟨O,Q,a3,U⟩:=K7e l (by unfold maxLen;omega) a d B z g m n (j+1) t (by omega) (by omega) (by omega) (by omega) e
     refine⟨O,Q,by omega,λh=>?_⟩
     obtain⟨c3,V⟩:=U h
     exact⟨by omega,⟨q.1,q.2,M,L⟩,V⟩
    have:((false||decide (2000<(l[j].text_.length:Int)))||decide (2000<(l[j].quoted_.length:Int)))=true:=by
     simp only[G2k,G2d,G0l]
     omega
    rw[this,Q0b]
    exact⟨-1,rfl,by omega,λh=>by omega⟩
   rw[G0b (by omega),Q0a,G2f (by omega),nWs,smWs]
   exact⟨left,rfl,⟨by omega,G4w _⟩,λh=>⟨by omega,trivial⟩⟩
theorem X8f(u:Cmd)(o:u.redirs_.length<=maxLen)(a:List Word->Int->Option Int)(d:Int×Int->Option Int)(e:Int)(B:Int)(q:B<=2000)
 (l:∀ (x:List Word) (left:Int),-1<=left->left<B->okWs x->x.length<=maxLen->∃r,a x left=some r/\Cnt left r (nWs x) (smWs x)):
 ∀ (n j:Nat) (left:Int),j<=u.redirs_.length->u.redirs_.length-j<n->left<B->-1<=left->okRs (u.redirs_.drop j)->
  ∃r,iter (J1z u a d e) n (left,(j:Int))=(bif decide (r<0)then some (-1)else d (r,IntKind.wrap .i64 (e+1)))/\Cnt left r (nRs (u.redirs_.drop j)) (smRs (u.redirs_.drop j))
 | 0,j,left,_,h,_,_,_=>by omega
 | n+1,j,left,K,L,t,y,f=>by
   unfold maxLen at o
   show ∃r,J1z u a d e (iter (J1z u a d e) n) (left,(j:Int))=_/\_
   rw[J1z]
   by_cases g:j<u.redirs_.length
   ·rw[Q1v g,okRs,V5o]at f
    rw[Q1v g,nRs,smRs,Z3v,X0y]
    rw[G0h (p:=((j:Int)<(u.redirs_.length:Int))) (by omega),Q0b,Q6y g,G0a]
    obtain⟨z,A,M,C⟩:=l [u.redirs_[j].word_] left y t ⟨f.1,trivial⟩ (by unfold maxLen;simp)
    rw[A,G0a,Q0j (by omega) (by omega)]
    obtain⟨E,F,O,H⟩:=X8f u (by unfold maxLen;omega) a d e B q l n (j+1) z (by omega) (by omega) (by omega) (by omega) f.2
    refine⟨E,F,by omega,λh=>?_⟩
    obtain⟨Q,I⟩:=H h
    obtain⟨J,m⟩:=C (by omega)
    rw[nWs,nWs]at J
    rw[smWs]at m
    exact⟨by omega,m.1,I⟩
   rw[G0b (p:=((j:Int)<(u.redirs_.length:Int))) (by omega),Q0a,G2f (by omega),nRs,smRs]
   exact⟨left,rfl,⟨by omega,G4w _⟩,λh=>⟨by omega,trivial⟩⟩
theorem K7g(l:List Cmd)(C:l.length<=maxLen)(a:List Word->Int->Option Int)(d:List Cmd->Int->Option Int)(B:Int)(m:B<=2000)
 (f:∀ (x:List Word) (left:Int),-1<=left->left<B->okWs x->x.length<=maxLen->∃r,a x left=some r/\Cnt left r (nWs x) (smWs x))
 (o:∀ (x:List Cmd) (left:Int),-1<=left->left<B->okCs x->x.length<=maxLen->∃r,d x left=some r/\Cnt left r (nCs x) (smCs x)):
 ∀ (n j:Nat) (left:Int),j<=l.length->l.length-j<n->left<=B->0<=left->okCs (l.drop j)->∃r,iter (Z9q l a d) n (left,(j:Int))=some r/\Cnt left r (nCs (l.drop j)) (smCs (l.drop j))
 | 0,j,left,_,h,_,_,_=>by omega
 | n+1,j,left,hj,hn,ag,ah,e=>by
   unfold maxLen at C
   show ∃r,Z9q l a d (iter (Z9q l a d) n) (left,(j:Int))=some r/\_
   rw[Z9q]
   by_cases g:j<l.length
   ·rw[Q1v g,okCs,V5p]at e
    obtain⟨⟨t1,E,q,F,H,o2,I⟩,e⟩:=e
    rw[Q1v g,nCs,smCs,Q3y,Q8i]
    rw[G0h (p:=((j:Int)<(l.length:Int))) (by omega),Q0b,Q0j (n:=left-1) (by omega) (by omega),Q6y g]
    by_cases t:left-1<0
    ·refine⟨-1,?_,by omega,λh=>by omega⟩
     rw[G0h (p:=(left-1<0)) t]
     rfl
    rw[G0b (p:=(left-1<0)) t]
    show ∃r,(bif ((false||decide (2000<(l[j].name_.length:Int)))||decide (left-1<(l[j].redirs_.length:Int)))then some (-1)else _)=some r/\_
    by_cases J:l[j].name_.length<=2000/\(l[j].redirs_.length:Int)<=left-1
    ·rw[G0b (p:=(2000<(l[j].name_.length:Int))) (by omega),G0b (p:=(left-1<(l[j].redirs_.length:Int))) (by omega),G6s,G6s,Q0a,G0a]
     obtain⟨K,L,a1,M⟩:=f l[j].words_ (left-1) (by omega) (by omega) H E
     rw[L,G0a]
     obtain⟨O,Q,a2,U⟩:=o l[j].kids_ K (by omega) (by omega) I F
     rw[Q,G0a]
     obtain⟨u,y,a3,z⟩:=X8f l[j] q a (iter (Z9q l a d) n) (j:Int) B m f BIG 0 O (G1t _) (by unfold maxLen at q;unfold BIG;omega) (by omega) (by omega) (by rw[G2u];exact o2)
     rw[show((0:Nat):Int)=0 from rfl]at y
     rw[y]
     rw[G2u]at z
     by_cases A:u<0
     ·rw[G0h A,Q0b]
      exact⟨-1,rfl,by omega,λh=>by omega⟩
     rw[G0b A,Q0a,Q0j (by omega) (by omega)]
     obtain⟨c3,V⟩:=z (by omega)
     obtain⟨c2,W⟩:=U (by omega)
     obtain⟨c1,X⟩:=M (by omega)
     obtain⟨Y,e4,a4,b4⟩:=K7g l (by unfold maxLen;omega) a d B m f o n (j+1) u (by omega) (by omega) (by omega) (by omega) e
     refine⟨Y,e4,by omega,λh=>?_⟩
     obtain⟨c4,d4⟩:=b4 h
     exact⟨by omega,⟨J.1,by omega,X,V,W⟩,d4⟩
    have:((false||decide (2000<(l[j].name_.length:Int)))||decide (left-1<(l[j].redirs_.length:Int)))=true:=by
     simp only[G2k,G2d,G0l]
     omega
    rw[this,Q0b]
    exact⟨-1,rfl,by omega,λh=>by omega⟩
   rw[G0b (by omega),Q0a,G2f (by omega),nCs,smCs]
   exact⟨left,rfl,⟨by omega,G4w _⟩,λh=>⟨by omega,trivial⟩⟩
theorem J6q:∀n:Nat,
 (∀ (x:List Word) (left:Int),-1<=left->left+2<=n->left<=2000->okWs x->x.length<=maxLen->∃r,K62 n x left=some r/\Cnt left r (nWs x) (smWs x))/\
 (∀ (x:List Cmd) (left:Int),-1<=left->left+2<=n->left<=2000->okCs x->x.length<=maxLen->∃r,K28 n x left=some r/\Cnt left r (nCs x) (smCs x))
 | 0=>⟨λx left l m=>by omega,λx left l m=>by omega⟩
 | n+1=>by
   obtain⟨t,u⟩:=J6q n
   refine⟨λx left l m o p g=>?_,λx left l m o p g=>?_⟩
   ·show ∃r,F62 (K28 n) (K62 n) x left=some r/\_
    rw[F62]
    have:=K7e x g (K62 n) (K28 n) left o (λy a d q e f=>t y a d (by omega) (by omega) e f) (λy a d q e f=>u y a d (by omega) (by omega) e f) BIG 0 left (G1t _) (by unfold maxLen at g;unfold BIG;omega) (G4w _) l (by rw[G2u];exact p)
    rw[G2u]at this
    exact this
   show ∃r,F28 (K28 n) (K62 n) x left=some r/\_
   rw[F28]
   by_cases z:left<0
   ·rw[G0h z,Q0b]
    exact⟨-1,rfl,⟨by omega,by omega⟩,λh=>by omega⟩
   rw[G0b z,Q0a]
   have:=K7g x g (K62 n) (K28 n) left o (λy a d q e f=>t y a d (by omega) (by omega) e f) (λy a d q e f=>u y a d (by omega) (by omega) e f) BIG 0 left (G1t _) (by unfold maxLen at g;unfold BIG;omega) (G4w _) (by omega) (by rw[G2u];exact p)
   rw[G2u]at this
   exact this
theorem V3z(l:List Cmd)(a:okCs l)(f:l.length<=maxLen):∃b,F12 l=some b/\(b=true->nCs l<=2000/\smCs l):=by
 obtain⟨r,e,⟨o,p⟩,g⟩:=(J6q BIG).2 l 2000 (by omega) (by unfold BIG;omega) (by omega) a f
 rw[F12,e,G0a]
 refine⟨_,rfl,λh=>?_⟩
 have m:0<=r:=G3e h
 obtain⟨c,d⟩:=g m
 exact⟨by omega,d⟩
end Go.Abs.U48
namespace Go.Abs.U48
open Go Go.Proofs
def sumL{α:Type}(f:α->Nat):List α->Nat
 | []=>0
 | x::r=>f x+sumL f r
def maxL{α:Type}(f:α->Nat):List α->Nat
 | []=>0
 | x::r=>max (f x) (maxL f r)
theorem Z6u{α R:Type}(f:α->Nat)(w:α->Option Int)(fin:Int->Option R):∀ (l:List α) (i:Int) (s:Nat),(∀x∈l,w x=some (f x:Int))->s+sumL f l<=1000000->
 Q3o (λu _ k (s:Int)=>(w u).bind λr=>k (IntKind.wrap .i64 (s+r))) fin l i (s:Int)=fin ((s+sumL f l:Nat):Int)
 | [],i,s,_,_=>by rw[Q3o,sumL];rfl
 | x::r,i,s,a,hb=>by
   rw[sumL]at hb
   rw[Q3o,a x (by simp),G0a,Q0j (by omega) (by omega),show(s:Int)+(f x:Int)=((s+f x:Nat):Int)by omega,Z6u f w fin r (i+1) (s+f x) (λy d=>a y (by simp[d])) (by omega),sumL]
   congr 2
   omega
theorem Z2s(a b:Nat):imax (a:Int) (b:Int)=((max a b:Nat):Int):=by
 unfold imax
 split<;>omega
theorem Q7v{α R:Type}(f:α->Nat)(w:α->Option Int)(fin:Int->Option R):∀ (l:List α) (i:Int) (s:Nat),(∀x∈l,w x=some (f x:Int))->
 Q3o (λu _ k (s:Int)=>(w u).bind λr=>k (imax s r)) fin l i (s:Int)=fin ((max s (maxL f l):Nat):Int)
 | [],i,s,_=>by rw[Q3o,maxL,G8u]
 | x::r,i,s,a=>by
   rw[Q3o,a x (by simp),G0a,Z2s,Q7v f w fin r (i+1) (max s (f x)) (λy d=>a y (by simp[d])),maxL,G9b]
theorem Q6m{α:Type}(p:α->Bool)(w:α->Option Bool):∀ (l:List α) (i:Nat),(∀x∈l,w x=some (p x))->
 ∃r:Int,Q3p (λu i k=>(w u).bind λr=>bif r then some i else k) (some (-1)) l (i:Int)=some r/\decide (0<=r)=l.any p
 | [],i,_=>⟨-1,rfl,rfl⟩
 | x::r,i,a=>by
   rw[Q3p,a x (by simp),G0a,List.any_cons]
   cases p x with
   | true=>exact⟨i,rfl,by rw[G0h (by omega)];rfl⟩
   | false=>exact Q6m p w r (i+1) (λy d=>a y (by simp[d]))
theorem Z2m{α:Type}(p:α->Bool)(w:α->Option Bool)(fin:Bool):∀ (l:List α) (i:Int),(∀x∈l,w x=some (p x))->
 Q3p (λu _ k=>(w u).bind λr=>bif !r then some false else k) (some fin) l i=some (l.all p&&fin)
 | [],i,_=>by rw[Q3p];rfl
 | x::r,i,a=>by
   rw[Q3p,a x (by simp),G0a,G2m]
   cases p x with
   | true=>rw[G0m,Q0a,Z2m p w fin r (i+1) (λy d=>a y (by simp[d])),G0x]
   | false=>rfl
def hasW(r:Redir):Bool:=!decide (r.kind_=5)&&!decide (r.kind_=6)
mutual
def szW:Word->Nat
 | ⟨_,_,_,ws,cs⟩=>1+szWs ws+szCs cs
def szWs:List Word->Nat
 | []=>0
 | w::r=>szW w+szWs r
def szC:Cmd->Nat
 | ⟨_,_,_,ws,rs,ks⟩=>1+rs.length+szCs ks+szWs ws+szRs rs
def szCs:List Cmd->Nat
 | []=>0
 | c::r=>szC c+szCs r
def szR:Redir->Nat
 | ⟨k,_,_,w,_⟩=>bif !decide (k=5)&&!decide (k=6)then szW w else 0
def szRs:List Redir->Nat
 | []=>0
 | r::s=>szR r+szRs s
end
theorem K6s(w:Word):szW w=1+szWs w.words_+szCs w.cmd_:=by obtain⟨_,_,_,ws,cs⟩:=w;rw[szW]
theorem X6n(c:Cmd):szC c=1+c.redirs_.length+szCs c.kids_+szWs c.words_+szRs c.redirs_:=by obtain⟨_,_,_,ws,rs,ks⟩:=c;rw[szC]
theorem K6t(r:Redir):szR r=bif hasW r then szW r.word_ else 0:=by obtain⟨_,_,_,w,_⟩:=r;rw[szR,hasW]
theorem Z2f:∀l,szWs l=sumL szW l
 | []=>by rw[szWs];rfl
 | x::r=>by rw[szWs,Z2f r];rfl
theorem Z6i:∀l,szCs l=sumL szC l
 | []=>by rw[szCs];rfl
 | x::r=>by rw[szCs,Z6i r];rfl
theorem J2p:∀l,szRs l=sumL szR l
 | []=>by rw[szRs];rfl
 | x::r=>by rw[szRs,J2p r];rfl
mutual
theorem K6r:∀w:Word,szW w+3<=4 * nW w
 | ⟨_,_,_,ws,cs⟩=>by
   have:=J2o ws
   have:=Z1h cs
   rw[szW,nW]
   omega
theorem J2o:∀l:List Word,szWs l<=4 * nWs l
 | []=>by rw[szWs];omega
 | w::r=>by
   have:=K6r w
   have:=J2o r
   rw[szWs,nWs]
   omega
theorem V4o:∀c:Cmd,szC c+3<=4 * nC c
 | ⟨_,_,_,ws,rs,ks⟩=>by
   have:=J2o ws
   have:=Z1h ks
   have:=X6m rs
   rw[szC,nC]
   omega
theorem Z1h:∀l:List Cmd,szCs l<=4 * nCs l
 | []=>by rw[szCs];omega
 | c::r=>by
   have:=V4o c
   have:=Z1h r
   rw[szCs,nCs]
   omega
theorem V4n:∀r:Redir,szR r+1<=4 * nR r
 | ⟨k,_,_,w,_⟩=>by
   have:=K6r w
   rw[szR,nR]
   cases(!decide (k=5)&&!decide (k=6))
   ·show 0+1<=_
    omega
   show szW w+1<=_
   omega
theorem X6m:∀l:List Redir,szRs l+l.length<=4 * nRs l
 | []=>by rw[szRs];simp
 | r::s=>by
   have:=V4n r
   have:=X6m s
   rw[szRs,nRs,G0i]
   omega
end
theorem Q2e:∀l:List Word,l.length<=nWs l
 | []=>by rw[nWs];simp
 | w::r=>by
   have:=Q2e r
   rw[nWs,Q7h,G0i]
   omega
theorem Q1m:∀l:List Cmd,l.length<=nCs l
 | []=>by rw[nCs];simp
 | w::r=>by
   have:=Q1m r
   rw[nCs,Q3y,G0i]
   omega
theorem Q7u:∀l:List Redir,l.length<=nRs l
 | []=>by rw[nRs];simp
 | w::r=>by
   have:=Q7u r
   rw[nRs,Z3v,Q7h,G0i]
   omega
theorem Q1o:∀ {l:List Word} {w:Word},w∈l->nW w<=nWs l
 | x::r,w,h=>by
   rw[nWs]
   rcases G1j.1 h with rfl|h
   ·omega
   have:=Q1o h
   omega
theorem Q0q:∀ {l:List Cmd} {w:Cmd},w∈l->nC w<=nCs l
 | x::r,w,h=>by
   rw[nCs]
   rcases G1j.1 h with rfl|h
   ·omega
   have:=Q0q h
   omega
theorem Q8t:∀ {l:List Redir} {w:Redir},w∈l->nR w<=nRs l
 | x::r,w,h=>by
   rw[nRs]
   rcases G1j.1 h with rfl|h
   ·omega
   have:=Q8t h
   omega
theorem X6p{l:List Word}:sumL szW l<=4 * nWs l:=by rw[<-Z2f];exact J2o l
theorem X6q{l:List Cmd}:sumL szC l<=4 * nCs l:=by rw[<-Z6i];exact Z1h l
theorem w15r{R:Type}(d:Word->Option Int)(e:Int×Int->Option R)(f:Int):∀ (l:List Redir) (i:Int) (s:Nat),(∀r∈l,d r.word_=some (szW r.word_:Int))->s+sumL szR l<=1000000->
 Q3o (λ(u:Redir) _ k (s:Int)=>(F32 u).bind λp=>bif p then(d u.word_).bind λq=>k (IntKind.wrap .i64 (s+q))else k s) (λs=>e (s,f)) l i (s:Int)=e (((s+sumL szR l:Nat):Int),f)
 | [],i,s,_,_=>rfl
 | x::r,i,s,g,hb=>by
   rw[sumL]at hb
   have m:=λt z=>w15r d e f r (i+1) t (λy A=>g y (by simp[A])) z
   have C:=g x (by simp)
   have a:=K6t x
   rw[Q3o,F32,G0a]
   rw[show(!decide (x.kind_=5)&&!decide (x.kind_=6))=hasW x from rfl]
   cases o:hasW x with
   | true=>
     rw[o,Q0b]at a
     rw[Q0b,C,G0a,Q0j (by omega) (by omega),show(s:Int)+(szW x.word_:Int)=((s+szW x.word_:Nat):Int)by omega,m _ (by omega),sumL,a,G4h]
   | false=>
     rw[o,Q0a]at a
     rw[Q0a,m _ (by omega),sumL,a,G3h]
theorem X6y:∀n:Nat,(∀w:Word,nW w<n->nW w<=40000->K31 n w=some (szW w:Int))/\(∀l:List Cmd,nCs l<n->nCs l<=40000->K15 n l=some (szCs l:Int))
 | 0=>⟨λ_ h=>by omega,λ_ h=>by omega⟩
 | n+1=>by
   obtain⟨g,o⟩:=X6y n
   refine⟨λw t hb=>?_,λl t hb=>?_⟩
   ·show F31 (K15 n) (K31 n) w=_
    have J:=Q7h w
    have y:=Q2e w.words_
    have hs:=X6p (l:=w.words_)
    have K:=Z1h w.cmd_
    rw[F31,o w.cmd_ (by omega) (by omega),G0a,Q0j (by omega) (by omega),show(1:Int)+(szCs w.cmd_:Int)=((1+szCs w.cmd_:Nat):Int)by omega]
    rw[Q1i (body:=K2b w (K31 n)) w.words_ (λu _ k (s:Int)=>(K31 n u).bind λr=>k (IntKind.wrap .i64 (s+r))) (λs=>some s) (λ_ _ _=>rfl) (by omega)]
    rw[Z6u szW (K31 n) _ w.words_ 0 (1+szCs w.cmd_) (λx e=>g x (by have:=Q1o e;omega) (by have:=Q1o e;omega)) (by omega),K6s,Z2f]
    congr 2
    omega
   show F15 (K15 n) (K31 n) l=_
   have y:=Q1m l
   have hs:=X6q (l:=l)
   rw[F15]
   have body:∀u∈l,∀ (a:Int×Int->Option Int) (d:Int) (s:Nat),s+szC u<=1000000->((K15 n u.kids_).bind λz=>iter (X3m u (K31 n) a d) BIG (IntKind.wrap .i64 ((s:Int)+(IntKind.wrap .i64 ((IntKind.wrap .i64 (1+(u.redirs_.length:Int)))+z))),0))=a (((s+szC u:Nat):Int),IntKind.wrap .i64 (d+1)):=by
    intro u A a d s p
    have L:=Q0q A
    have M:=Q3y u
    have O:=X6n u
    have Q:=Q2e u.words_
    have U:=Q7u u.redirs_
    have V:=Z1h u.kids_
    have W:=J2p u.redirs_
    have X:=Z2f u.words_
    rw[o u.kids_ (by omega) (by omega),G0a,Q0j (n:=1+(u.redirs_.length:Int)) (by omega) (by omega),Q0j (n:=1+(u.redirs_.length:Int)+(szCs u.kids_:Int)) (by omega) (by omega),Q0j (by omega) (by omega),
     show(s:Int)+(1+(u.redirs_.length:Int)+(szCs u.kids_:Int))=((s+(1+u.redirs_.length+szCs u.kids_):Nat):Int)by omega]
    rw[Q1i (body:=X3m u (K31 n) a d) u.words_ (λv _ k (s:Int)=>(K31 n v).bind λr=>k (IntKind.wrap .i64 (s+r))) (λs=>iter (J7f u (K31 n) a d) BIG (s,0)) (λ_ _ _=>rfl) (by omega)]
    rw[Z6u szW (K31 n) _ u.words_ 0 _ (λx e=>g x (by have:=Q1o e;omega) (by have:=Q1o e;omega)) (by omega)]
    rw[Q1i (body:=J7f u (K31 n) a d) u.redirs_ (λ(v:Redir) _ k (s:Int)=>(F32 v).bind λC=>bif C then(K31 n v.word_).bind λE=>k (IntKind.wrap .i64 (s+E))else k s) (λs=>a (s,IntKind.wrap .i64 (d+1))) (λY i s=>by rw[J7f]) (by omega)]
    rw[w15r (K31 n) a _ u.redirs_ 0 _ (λr q=>g r.word_ (by have:=Q8t q;have:=Z3v r;omega) (by have:=Q8t q;have:=Z3v r;omega)) (by omega)]
    congr 3
    omega
   have F:∀ (m j:Nat) (s:Nat),j<=l.length->l.length-j<m->s+sumL szC (l.drop j)<=1000000->iter (J2f l (K15 n) (K31 n)) m ((s:Int),(j:Int))=some ((s+sumL szC (l.drop j):Nat):Int):=by
    intro m
    induction m with
    | zero=>intro j s H h;omega
    | succ m I=>
      intro j s H hm p
      show J2f l (K15 n) (K31 n) (iter (J2f l (K15 n) (K31 n)) m) ((s:Int),(j:Int))=_
      rw[J2f]
      by_cases f:j<l.length
      ·rw[Q1v f,sumL]at p
       rw[G0h (by omega),Q0b,Q6y f,G0a,body _ (G4d f) _ _ s (by omega),Q0j (by omega) (by omega)]
       have:=I (j+1) (s+szC l[j]) (by omega) (by omega) (by omega)
       rw[Q1v f,sumL,<-G4h,<-this]
       rfl
      rw[G0b (by omega),Q0a,G2f (by omega)]
      rfl
   have:=F BIG 0 0 (G1t _) (by unfold BIG;omega) (by rw[G2u];omega)
   rw[G2u,G3h,<-Z6i]at this
   exact this
theorem J6a{α R:Type}(f g:α->Nat)(w v:α->Option Int)(fin:Int->Option R):∀ (l:List α) (i:Int) (s:Nat),(∀x∈l,w x=some (f x:Int)/\v x=some (g x:Int))->s+sumL (λx=>f x+g x) l<=1000000->
 Q3o (λu _ k (s:Int)=>(w u).bind λr=>(v u).bind λq=>k (IntKind.wrap .i64 (IntKind.wrap .i64 (s+r)+q))) fin l i (s:Int)=fin ((s+sumL (λx=>f x+g x) l:Nat):Int)
 | [],i,s,_,_=>by rw[Q3o,sumL];rfl
 | x::r,i,s,a,hb=>by
   rw[sumL]at hb
   rw[Q3o,(a x (by simp)).1,G0a,(a x (by simp)).2,G0a,Q0j (n:=(s:Int)+(f x:Int)) (by omega) (by omega),Q0j (by omega) (by omega),show(s:Int)+(f x:Int)+(g x:Int)=((s+(f x+g x):Nat):Int)by omega,J6a f g w v fin r (i+1) _ (λy d=>a y (by simp[d])) (by omega),sumL]
   congr 2
   omega
theorem X3h(d:Redir):F34 d=some (bif hasW d then[d.word_]else[]):=by
 rw[F34,hasW]
 cases decide (d.kind_=5)<;>cases decide (d.kind_=6)<;>rfl
theorem Y4r(r:Redir):szWs (bif hasW r then[r.word_]else[])=szR r:=by
 rw[K6t]
 cases hasW r
 ·rw[Q0a,Q0a,szWs]
 rw[Q0b,Q0b,szWs,szWs,G3m]
theorem nR_t(r:Redir):nWs (bif hasW r then[r.word_]else[])<=nR r:=by
 rw[Z3v]
 cases hasW r
 ·rw[Q0a,nWs];omega
 rw[Q0b,nWs,nWs];omega
theorem X0u{α:Type}(f:α->Nat)(h:α->Nat)(e:∀x,f x=1+h x):∀l:List α,sumL f l=l.length+sumL h l
 | []=>rfl
 | x::r=>by rw[sumL,sumL,X0u f h e r,e,G0i];omega
theorem X1b:∀n:Nat,(∀l:List Word,nWs l<n->nWs l<=40000->K33 n l=some (szWs l:Int))/\(∀l:List Cmd,nCs l<n->nCs l<=40000->K16 n l=some (szCs l:Int))
 | 0=>⟨λ_ h=>by omega,λ_ h=>by omega⟩
 | n+1=>by
   obtain⟨o,y⟩:=X1b n
   refine⟨λl E hb=>?_,λl E hb=>?_⟩
   ·show F33 (K16 n) (K33 n) l=_
    have F:=Q2e l
    have hs:=X6p (l:=l)
    have Q:=X0u szW (λw=>szWs w.words_+szCs w.cmd_) (λw=>by rw[K6s];omega) l
    rw[F33,Q1i (body:=K2a l (K33 n) (K16 n)) l (λu _ k (s:Int)=>(K33 n u.words_).bind λr=>(K16 n u.cmd_).bind λq=>k (IntKind.wrap .i64 (IntKind.wrap .i64 (s+r)+q))) (λs=>some s) (λ_ _ _=>rfl) (by omega)]
    rw[J6a (λw=>szWs w.words_) (λw=>szCs w.cmd_) (λu=>K33 n u.words_) (λu=>K16 n u.cmd_) _ l 0 l.length (λx p=>?_) (by omega),Z2f]
    ·congr 2
     omega
    have z:=Q1o p
    have H:=Q7h x
    exact⟨o _ (by omega) (by omega),y _ (by omega) (by omega)⟩
   show F16 (K16 n) (K33 n) l=_
   have F:=Q1m l
   have hs:=X6q (l:=l)
   rw[F16]
   have body:∀u∈l,∀ (a:Int×Int->Option Int) (d:Int) (s:Nat),s+szC u<=1000000->((K33 n u.words_).bind λI=>(K16 n u.kids_).bind λJ=>iter (X3l u (K33 n) a d) BIG (IntKind.wrap .i64 ((IntKind.wrap .i64 ((IntKind.wrap .i64 ((s:Int)+I))+J))+(u.redirs_.length:Int)),0))=a (((s+(szC u-1):Nat):Int),IntKind.wrap .i64 (d+1)):=by
    intro u K a d s A
    have z:=Q0q K
    have H:=Q3y u
    have U:=X6n u
    have V:=Q7u u.redirs_
    have W:=Z1h u.kids_
    have X:=J2p u.redirs_
    rw[o u.words_ (by omega) (by omega),G0a,y u.kids_ (by omega) (by omega),G0a,Q0j (n:=(s:Int)+(szWs u.words_:Int)) (by omega) (by omega),Q0j (n:=(s:Int)+(szWs u.words_:Int)+(szCs u.kids_:Int)) (by omega) (by omega),Q0j (by omega) (by omega),
     show(s:Int)+(szWs u.words_:Int)+(szCs u.kids_:Int)+(u.redirs_.length:Int)=((s+szWs u.words_+szCs u.kids_+u.redirs_.length:Nat):Int)by omega]
    rw[Q1i (body:=X3l u (K33 n) a d) u.redirs_ (λ(v:Redir) _ k (s:Int)=>(F34 v).bind λt=>(K33 n t).bind λr=>k (IntKind.wrap .i64 (s+r))) (λs=>a (s,IntKind.wrap .i64 (d+1))) (λ_ _ _=>rfl) (by omega)]
    have e:(λ(v:Redir) (_:Int) (k:Int->Option Int) (s:Int)=>(F34 v).bind λt=>(K33 n t).bind λr=>k (IntKind.wrap .i64 (s+r)))=(λ(v:Redir) (_:Int) (k:Int->Option Int) (s:Int)=>((F34 v).bind (K33 n)).bind λr=>k (IntKind.wrap .i64 (s+r))):=by
     funext v i k s
     rw[X3h]
     rfl
    rw[e,Z6u szR (λv=>(F34 v).bind (K33 n)) _ u.redirs_ 0 _ (λx p=>?_) (by omega)]
    ·congr 3
     omega
    have Y:=Q8t p
    have h9:=nR_t x
    rw[X3h,G0a,o _ (by omega) (by omega),Y4r]
   have L:∀ (m j:Nat) (s:Nat),j<=l.length->l.length-j<m->s+sumL szC (l.drop j)<=1000000->iter (J2e l (K33 n) (K16 n)) m ((s:Int),(j:Int))=some ((s+(sumL szC (l.drop j)-(l.length-j)):Nat):Int)/\l.length-j<=sumL szC (l.drop j):=by
    intro m
    induction m with
    | zero=>intro j s M h;omega
    | succ m O=>
      intro j s M hm A
      show J2e l (K33 n) (K16 n) (iter (J2e l (K33 n) (K16 n)) m) ((s:Int),(j:Int))=_/\_
      rw[J2e]
      by_cases g:j<l.length
      ·rw[Q1v g,sumL]at A
       rw[G0h (by omega),Q0b,Q6y g,G0a,body _ (G4d g) _ _ s (by omega),Q0j (by omega) (by omega)]
       obtain⟨f,C⟩:=O (j+1) (s+(szC l[j]-1)) (by omega) (by omega) (by omega)
       have z:=X6n l[j]
       rw[Q1v g,sumL]
       refine⟨?_,by omega⟩
       rw[show((j:Int)+1)=((j+1:Nat):Int)by omega,f]
       congr 2
       omega
      rw[G0b (by omega),Q0a,G2f (by omega)]
      refine⟨?_,by omega⟩
      rw[sumL]
      congr 2
      omega
   obtain⟨f,C⟩:=L BIG 0 l.length (G1t _) (by unfold BIG;omega) (by rw[G2u];omega)
   rw[G2u]at f C
   rw[show((0:Nat):Int)=0 from rfl]at f
   rw[f,Z6i]
   congr 2
   omega
mutual
def dW:Word->Nat
 | ⟨_,_,_,ws,cs⟩=>max (dWs ws) (dCs cs)+1
def dWs:List Word->Nat
 | []=>0
 | w::r=>max (dW w) (dWs r)
def dC:Cmd->Nat
 | ⟨_,_,_,ws,rs,ks⟩=>max (max (dCs ks) (dWs ws)) (dRs rs)+1
def dCs:List Cmd->Nat
 | []=>0
 | c::r=>max (dC c) (dCs r)
def dR:Redir->Nat
 | ⟨k,_,_,w,_⟩=>bif !decide (k=5)&&!decide (k=6)then dW w else 0
def dRs:List Redir->Nat
 | []=>0
 | r::s=>max (dR r) (dRs s)
end
theorem Y1b(w:Word):dW w=max (dWs w.words_) (dCs w.cmd_)+1:=by obtain⟨_,_,_,ws,cs⟩:=w;rw[dW]
theorem Y1d(c:Cmd):dC c=max (max (dCs c.kids_) (dWs c.words_)) (dRs c.redirs_)+1:=by obtain⟨_,_,_,ws,rs,ks⟩:=c;rw[dC]
theorem Y1c(r:Redir):dR r=bif hasW r then dW r.word_ else 0:=by obtain⟨_,_,_,w,_⟩:=r;rw[dR,hasW]
theorem J3v:∀l,dWs l=maxL dW l
 | []=>by rw[dWs];rfl
 | x::r=>by rw[dWs,J3v r];rfl
theorem Z8t:∀l,dCs l=maxL dC l
 | []=>by rw[dCs];rfl
 | x::r=>by rw[dCs,Z8t r];rfl
theorem J9b:∀l,dRs l=maxL dR l
 | []=>by rw[dRs];rfl
 | x::r=>by rw[dRs,J9b r];rfl
mutual
theorem K5c:∀w:Word,dW w<=nW w
 | ⟨_,_,_,ws,cs⟩=>by
   have:=X9z ws
   have:=K0a cs
   rw[dW,nW]
   omega
theorem X9z:∀l:List Word,dWs l<=nWs l
 | []=>by rw[dWs];omega
 | w::r=>by
   have:=K5c w
   have:=X9z r
   rw[dWs,nWs]
   omega
theorem V2b:∀c:Cmd,dC c<=nC c
 | ⟨_,_,_,ws,rs,ks⟩=>by
   have:=X9z ws
   have:=K0a ks
   have:=K7t rs
   rw[dC,nC]
   omega
theorem K0a:∀l:List Cmd,dCs l<=nCs l
 | []=>by rw[dCs];omega
 | c::r=>by
   have:=V2b c
   have:=K0a r
   rw[dCs,nCs]
   omega
theorem Y8f:∀r:Redir,dR r<=nR r
 | ⟨k,_,_,w,_⟩=>by
   have:=K5c w
   rw[dR,nR]
   cases(!decide (k=5)&&!decide (k=6))
   ·exact G1t _
   exact this
theorem K7t:∀l:List Redir,dRs l<=nRs l
 | []=>by rw[dRs];omega
 | r::s=>by
   have:=Y8f r
   have:=K7t s
   rw[dRs,nRs]
   omega
end
theorem w51r{R:Type}(d:Word->Option Int)(fin:Int->Option R):∀ (l:List Redir) (i:Int) (s:Nat),(∀r∈l,d r.word_=some (dW r.word_:Int))->
 Q3o (λ(u:Redir) _ k (s:Int)=>(F32 u).bind λm=>bif m then(d u.word_).bind λo=>k (imax s o)else k s) fin l i (s:Int)=fin ((max s (maxL dR l):Nat):Int)
 | [],i,s,_=>by rw[Q3o,maxL,G8u]
 | x::r,i,s,e=>by
   have f:=λt=>w51r d fin r (i+1) t (λy p=>e y (by simp[p]))
   have q:=e x (by simp)
   have a:=Y1c x
   rw[Q3o,F32,G0a,maxL]
   rw[show(!decide (x.kind_=5)&&!decide (x.kind_=6))=hasW x from rfl]
   cases g:hasW x with
   | true=>
     rw[g,Q0b]at a
     rw[Q0b,q,G0a,Z2s,f,a,G9b]
   | false=>
     rw[g,Q0a]at a
     rw[Q0a,f,a,G9g]
theorem X2l:∀n:Nat,(∀w:Word,nW w<n->nW w<=40000->K86 n w=some (dW w:Int))/\(∀c:Cmd,nC c<n->nC c<=40000->K51 n c=some (dC c:Int))
 | 0=>⟨λ_ h=>by omega,λ_ h=>by omega⟩
 | n+1=>by
   obtain⟨d,f⟩:=X2l n
   refine⟨λw l hb=>?_,λc l hb=>?_⟩
   ·show F86 (K51 n) (K86 n) w=_
    have m:=Q7h w
    have o:=Q2e w.words_
    have p:=Q1m w.cmd_
    have q:=K5c w
    rw[F86,Q1i (body:=K1p w (K86 n) (K51 n)) w.words_ (λv _ k (s:Int)=>(K86 n v).bind λr=>k (imax s r)) (λs=>iter (X3c w (K51 n)) BIG (s,0)) (λ_ _ _=>rfl) (by omega)]
    rw[show(0:Int)=((0:Nat):Int) from rfl,Q7v dW (K86 n) _ w.words_ _ 0 (λx a=>d x (by have:=Q1o a;omega) (by have:=Q1o a;omega))]
    rw[show((0:Nat):Int)=0 from rfl,Q1i (body:=X3c w (K51 n)) w.cmd_ (λv _ k (s:Int)=>(K51 n v).bind λr=>k (imax s r)) (λs=>some (IntKind.wrap .i64 (s+1))) (λ_ _ _=>rfl) (by omega)]
    rw[Q7v dC (K51 n) _ w.cmd_ _ _ (λx a=>f x (by have:=Q0q a;omega) (by have:=Q0q a;omega))]
    have e:=Y1b w
    rw[J3v,Z8t]at e
    rw[Q0j (by omega) (by omega)]
    congr 1
    omega
   show F51 (K51 n) (K86 n) c=_
   have m:=Q3y c
   have o:=Q2e c.words_
   have p:=Q1m c.kids_
   have y:=Q7u c.redirs_
   have q:=V2b c
   rw[F51,Q1i (body:=K1x c (K51 n) (K86 n)) c.kids_ (λv _ k (s:Int)=>(K51 n v).bind λr=>k (imax s r)) (λs=>iter (X3f c (K86 n)) BIG (s,0)) (λ_ _ _=>rfl) (by omega)]
   rw[show(0:Int)=((0:Nat):Int) from rfl,Q7v dC (K51 n) _ c.kids_ _ 0 (λx a=>f x (by have:=Q0q a;omega) (by have:=Q0q a;omega))]
   rw[show((0:Nat):Int)=0 from rfl,Q1i (body:=X3f c (K86 n)) c.words_ (λv _ k (s:Int)=>(K86 n v).bind λr=>k (imax s r)) (λs=>iter (J7b c (K86 n)) BIG (s,0)) (λ_ _ _=>rfl) (by omega)]
   rw[Q7v dW (K86 n) _ c.words_ _ _ (λx a=>d x (by have:=Q1o a;omega) (by have:=Q1o a;omega))]
   rw[Q1i (body:=J7b c (K86 n)) c.redirs_ (λ(v:Redir) _ k (s:Int)=>(F32 v).bind λt=>bif t then(K86 n v.word_).bind λu=>k (imax s u)else k s) (λs=>some (IntKind.wrap .i64 (s+1))) (λz i s=>by rw[J7b]) (by omega)]
   rw[w51r (K86 n) _ c.redirs_ _ _ (λr g=>d r.word_ (by have:=Q8t g;have:=Z3v r;omega) (by have:=Q8t g;have:=Z3v r;omega))]
   have e:=Y1d c
   rw[J3v,Z8t,J9b]at e
   rw[Q0j (by omega) (by omega)]
   congr 1
   omega
theorem dR_t(r:Redir):dWs (bif hasW r then[r.word_]else[])=dR r:=by
 rw[Y1c]
 cases hasW r
 ·rw[Q0a,Q0a,dWs]
 rw[Q0b,Q0b,dWs,dWs,G8u]
theorem J5g:∀n:Nat,(∀l:List Word,nWs l<n->nWs l<=40000->K61 n l=some (dWs l:Int))/\(∀l:List Cmd,nCs l<n->nCs l<=40000->K25 n l=some (dCs l:Int))
 | 0=>⟨λ_ h=>by omega,λ_ h=>by omega⟩
 | n+1=>by
   obtain⟨o,z⟩:=J5g n
   refine⟨λl C hb=>?_,λl C hb=>?_⟩
   ·show F61 (K25 n) (K61 n) l=_
    have E:=Q2e l
    rw[F61,Q1i (body:=K1w l (K61 n) (K25 n)) l (λu _ k (s:Int)=>(K61 n u.words_).bind λr=>(K25 n u.cmd_).bind λq=>k (imax s (IntKind.wrap .i64 (1+(imax r q))))) (λs=>some s) (λ_ _ _=>rfl) (by omega)]
    have e:(λ(u:Word) (_:Int) (k:Int->Option Int) (s:Int)=>(K61 n u.words_).bind λr=>(K25 n u.cmd_).bind λq=>k (imax s (IntKind.wrap .i64 (1+(imax r q)))))=(λ(u:Word) (_:Int) (k:Int->Option Int) (s:Int)=>((K61 n u.words_).bind λr=>(K25 n u.cmd_).bind λq=>some (IntKind.wrap .i64 (1+(imax r q)))).bind λr=>k (imax s r)):=by
     funext u i k s
     rw[Option.bind_assoc]
     congr 1
     funext r
     rw[Option.bind_assoc]
     rfl
    rw[e,show(0:Int)=((0:Nat):Int) from rfl,Q7v dW _ _ l _ 0 (λx p=>?_),G9g,J3v]
    have F:=Q1o p
    have H:=Q7h x
    have A:=K5c x
    have Q:=Y1b x
    rw[o _ (by omega) (by omega),G0a,z _ (by omega) (by omega),G0a,Z2s,Q0j (by omega) (by omega)]
    congr 1
    omega
   show F25 (K25 n) (K61 n) l=_
   have E:=Q1m l
   rw[F25]
   have body:∀u∈l,∀ (a:Int×Int->Option Int) (f:Int) (s:Nat),((K61 n u.words_).bind λI=>(K25 n u.kids_).bind λJ=>iter (X3j u (K61 n) a (s:Int) f) BIG (imax I J,0))=a (((max s (dC u):Nat):Int),IntKind.wrap .i64 (f+1)):=by
    intro u K a f s
    have F:=Q0q K
    have H:=Q3y u
    have A:=Y1d u
    have U:=Q7u u.redirs_
    have V:=V2b u
    rw[o u.words_ (by omega) (by omega),G0a,z u.kids_ (by omega) (by omega),G0a,Z2s]
    rw[Q1i (body:=X3j u (K61 n) a (s:Int) f) u.redirs_ (λ(v:Redir) _ k (s:Int)=>(F34 v).bind λt=>(K61 n t).bind λr=>k (imax s r)) (λd=>a (imax (s:Int) (IntKind.wrap .i64 (1+d)),IntKind.wrap .i64 (f+1))) (λ_ _ _=>rfl) (by omega)]
    have e:(λ(v:Redir) (_:Int) (k:Int->Option Int) (s:Int)=>(F34 v).bind λt=>(K61 n t).bind λr=>k (imax s r))=(λ(v:Redir) (_:Int) (k:Int->Option Int) (s:Int)=>((F34 v).bind (K61 n)).bind λr=>k (imax s r)):=by
     funext v i k s
     rw[X3h]
     rfl
    rw[e,Q7v dR (λv=>(F34 v).bind (K61 n)) _ u.redirs_ 0 _ (λx p=>?_)]
    ·rw[J9b]at A
     rw[Q0j (by omega) (by omega),show(1:Int)+((max (max (dWs u.words_) (dCs u.kids_)) (maxL dR u.redirs_):Nat):Int)=((dC u:Nat):Int)by omega,Z2s]
    have W:=Q8t p
    have X:=nR_t x
    rw[X3h,G0a,o _ (by omega) (by omega),dR_t]
   have L:∀ (m j:Nat) (s:Nat),j<=l.length->l.length-j<m->iter (J2b l (K61 n) (K25 n)) m ((s:Int),(j:Int))=some ((max s (maxL dC (l.drop j)):Nat):Int):=by
    intro m
    induction m with
    | zero=>intro j s M h;omega
    | succ m O=>
      intro j s M Y
      show J2b l (K61 n) (K25 n) (iter (J2b l (K61 n) (K25 n)) m) ((s:Int),(j:Int))=_
      rw[J2b]
      by_cases y:j<l.length
      ·rw[G0h (by omega),Q0b,Q6y y,G0a,body _ (G4d y) _ _ s,Q0j (by omega) (by omega)]
       have g:=O (j+1) (max s (dC l[j])) (by omega) (by omega)
       rw[Q1v y,maxL]
       rw[show((j:Int)+1)=((j+1:Nat):Int)by omega,g,G9b]
      rw[G0b (by omega),Q0a,G2f (by omega),maxL,G8u]
   have g:=L BIG 0 0 (G1t _) (by unfold BIG;omega)
   rw[G2u,G9g,<-Z8t]at g
   exact g
theorem X8b{α:Type}(f:α->Nat)(b:Nat):∀l:List α,decide (maxL f l<=b)=!(l.any λx=>decide (b<f x))
 | []=>by rw[maxL];simp
 | x::r=>by
   rw[maxL,List.any_cons,G6p,<-X8b f b r]
   by_cases a:b<f x
   ·rw[G0h a,G0b (by omega)];rfl
   rw[G0b a]
   show _=(true&&_)
   rw[G0x]
   congr 1
   exact propext ⟨λh=>by omega,λh=>by omega⟩
theorem K8r(l:List Cmd)(hb:nCs l<=40000):F21 l=some (decide (szCs l<=1024)&&decide (dCs l<=32)):=by
 have g:=Q1m l
 rw[F21,(X6y BIG).2 l (by unfold BIG;omega) hb,G0a]
 by_cases a:szCs l<=1024
 ·rw[G0h (p:=((szCs l:Int)<=1024)) (by omega),Q0b,G0h a,G0x,F49,F85]
  rw[Q1e (body:=K1t l) l (λu i k=>(F50 u).bind λr=>bif r then some i else k) (some (-1)) (λ_ _=>rfl) (by omega)]
  obtain⟨r,d,e⟩:=Q6m (λc=>decide (32<dC c)) F50 l 0 (λx f=>by
   have m:=Q0q f
   rw[F50,(X2l BIG).2 x (by unfold BIG;omega) (by omega),G0a]
   congr 1
   exact G1e.2 (by omega))
  rw[show((0:Nat):Int)=0 from rfl]at d
  rw[d,G0a,G0a,e,Z8t,X8b]
 rw[G0b (p:=((szCs l:Int)<=1024)) (by omega),Q0a,G0b a,G3b]
def isnc(c:Int):Bool:=((((decide (97<=c)&&decide (c<=122))||(decide (65<=c)&&decide (c<=90)))||(decide (48<=c)&&decide (c<=57)))||decide (c=95))||decide (c=42)
def nameB(s:Str):Bool:=(s.map B).all isnc&&!decide (s=[])
theorem X0b(s:Str)(a:s.length<=9223372036854775807):F172 s=some (nameB s):=by
 rw[F172,Z1l (body:=X0c s) s (λc _ k=>(some (isnc c)).bind λr=>bif !r then some false else k) (some (!decide (s=[]))) (λ_ _=>rfl) a]
 exact Z2m isnc (λc=>some (isnc c)) _ (s.map B) 0 (λ_ _=>rfl)
theorem K4e(c:Int):(((((decide (c<97)||decide (122<c))&&(decide (c<65)||decide (90<c)))&&(decide (c<48)||decide (57<c)))&&!decide (c=95))&&!decide (c=42))=!isnc c:=by
 have h:∀a b:Int,decide (a<b)=!decide (b<=a):=λa b=>by
  by_cases h:a<b
  ·rw[G0h h,G0b (by omega)];rfl
  rw[G0b h,G0h (by omega)];rfl
 rw[isnc,h c 97,h 122 c,h c 65,h 90 c,h c 48,h 57 c]
 simp only[G6p,Bool.not_and]
theorem J4r(s:Str)(a:s.length<=9223372036854775807):F144 s=some (nameB s):=by
 rw[F144,Z1l (body:=J4s s) s (λc _ k=>(some (isnc c)).bind λr=>bif !r then some false else k) (some (!decide (s=[]))) (λd i=>by
  rw[J4s]
  simp only[K4e]
  rfl) a]
 exact Z2m isnc (λc=>some (isnc c)) _ (s.map B) 0 (λ_ _=>rfl)
def Q2k(q:Str):Bool:=q.contains 49
theorem V3u(q:Str)(a:q.length<=9223372036854775807):F171 q=some (Q2k q):=by
 rw[F171,Z1l (body:=X0d q) q (λc _ k=>bif decide (c=49)then some true else k) (some false) (λ_ _=>rfl) a]
 have:∀ (q:Str) (i:Int),Q3p (λ(c:Int) _ k=>bif decide (c=49)then some true else k) (some false) (q.map B) i=some (Q2k q):=by
  intro q
  induction q with
  | nil=>intro i;rfl
  | cons c r d=>
    intro i
    rw[G2i,Q3p,Q2k,G3j]
    have hb:=Q4v c 49
    rw[show decide (B c=49)=decide (c=49) from hb]
    by_cases h:c=49
    ·subst h;rfl
    rw[G0b h,Q0a,d,Q2k]
    have:((49:UInt8)==c)=false:=by rw[G5v];exact λe=>h e.symm
    rw[this,G2k]
 exact this q 0
theorem J6f(q:Str)(c:UInt8):decide (Lib.indexByte q c<0)=!q.contains c:=by
 rw[Lib.contains_iff_indexByte]
 by_cases h:Lib.indexByte q c<0
 ·rw[G0h h,G0b (by omega)];rfl
 rw[G0b h,G0h (by omega)];rfl
theorem Q4j(q:Str):Q0h q 49=some (Lib.indexByte q 49):=rfl
def keyB(s:Str):Bool:=((((((decide (s=[105,102])||decide (s=[119,104,105,108,101]))||decide (s=[102,111,114]))||decide (s=[115,119,105,116,99,104]))||decide (s=[99,97,115,101]))||decide (s=[102,110]))||decide (s=[126]))
theorem V3p(s:Str):F187 s=some (keyB s):=rfl
theorem contains_cons(b:UInt8)(l sub:Str):Lib.contains (b::l) sub=(sub.isPrefixOf (b::l)||Lib.contains l sub):=by
 unfold Lib.contains
 cases d:sub.isPrefixOf (b::l)with
 | true=>
   have:Lib.index (b::l) sub=0:=by unfold Lib.index;rw[if_pos d]
   rw[this];rfl
 | false=>
   rw[G2k]
   rcases Lib.index_spec l sub with⟨a,_⟩|⟨i,a,_⟩
   ·have:Lib.index (b::l) sub=-1:=by unfold Lib.index;rw[d,a];rfl
    rw[this,a]
   have:Lib.index (b::l) sub=i+1:=by
    unfold Lib.index
    rw[d,a]
    have:((i:Int)==-1)=false:=by rw[G5v];omega
    simp[this]
   rw[this,a,G0h (by omega),G0h (by omega)]
theorem contains_nil(b:UInt8)(sub:Str):Lib.contains [] (b::sub)=false:=rfl
theorem K6y:∀ (s w r:Str),(32:UInt8)∉s->(32:UInt8)∉w->List.isPrefixOf (s++[32]) (w++32::r)=decide (s=w)
 | [],[],r,_,_=>by simp[List.isPrefixOf]
 | [],b::w,r,_,d=>by
   have:¬ (32:UInt8)=b:=λe=>d (by simp[e])
   simp[List.isPrefixOf,this]
 | a::s,[],r,hs,_=>by
   have:¬ a=(32:UInt8):=λe=>hs (by simp[e])
   simp[List.isPrefixOf,this]
 | a::s,b::w,r,hs,d=>by
   have f:=K6y s w r (λh=>hs (by simp[h])) (λh=>d (by simp[h]))
   rw[G1d,G1d,List.isPrefixOf,f]
   by_cases h:a=b
   ·subst h
    simp
   simp[h]
theorem K9z(s:Str):List.isPrefixOf (s++[32]) []=false:=by cases s<;>rfl
theorem pre_ne(b:UInt8)(x l:Str)(h:((32:UInt8)==b)=false):List.isPrefixOf (32::x) (b::l)=false:=by
 rw[List.isPrefixOf,h,G3b]
theorem V5d(x l:Str):List.isPrefixOf (32::x) (32::l)=x.isPrefixOf l:=by
 rw[List.isPrefixOf]
 rfl
def kwsB(s:Str):Bool:=decide (s=[105,102])||(decide (s=[110,111,116])||(decide (s=[119,104,105,108,101])||(decide (s=[102,111,114])||(decide (s=[105,110])||(decide (s=[115,119,105,116,99,104])||(decide (s=[99,97,115,101])||(decide (s=[102,110])||decide (s=[126]))))))))
theorem J8j(s:Str)(h:(32:UInt8)∉s):Lib.contains [32,105,102,32,110,111,116,32,119,104,105,108,101,32,102,111,114,32,105,110,32,115,119,105,116,99,104,32,99,97,115,101,32,102,110,32,126,32] (32::(s++[32]))=kwsB s:=by
 have p:=λ(w r:Str) y=>K6y s w r h y
 have d:=p [105,102] [110,111,116,32,119,104,105,108,101,32,102,111,114,32,105,110,32,115,119,105,116,99,104,32,99,97,115,101,32,102,110,32,126,32] (by decide)
 have f:=p [110,111,116] [119,104,105,108,101,32,102,111,114,32,105,110,32,115,119,105,116,99,104,32,99,97,115,101,32,102,110,32,126,32] (by decide)
 have g:=p [119,104,105,108,101] [102,111,114,32,105,110,32,115,119,105,116,99,104,32,99,97,115,101,32,102,110,32,126,32] (by decide)
 have m:=p [102,111,114] [105,110,32,115,119,105,116,99,104,32,99,97,115,101,32,102,110,32,126,32] (by decide)
 have o:=p [105,110] [115,119,105,116,99,104,32,99,97,115,101,32,102,110,32,126,32] (by decide)
 have q:=p [115,119,105,116,99,104] [99,97,115,101,32,102,110,32,126,32] (by decide)
 have t:=p [99,97,115,101] [102,110,32,126,32] (by decide)
 have u:=p [102,110] [126,32] (by decide)
 have x:=p [126] [] (by decide)
 simp only[G1d,G0t]at d f g m o q t u x
 have e:∀b:UInt8,((32:UInt8)==b)=false->∀l,Lib.contains (b::l) (32::(s++[32]))=Lib.contains l (32::(s++[32])):=λb hb l=>by rw[contains_cons,pre_ne b _ l hb,G2k]
 have a:∀l,Lib.contains (32::l) (32::(s++[32]))=(List.isPrefixOf (s++[32]) l||Lib.contains l (32::(s++[32]))):=λl=>by rw[contains_cons,V5d]
 rw[a,d,e 105 rfl,e 102 rfl,a,f,e 110 rfl,e 111 rfl,e 116 rfl,a,g,e 119 rfl,e 104 rfl,e 105 rfl,e 108 rfl,e 101 rfl,a,m,e 102 rfl,e 111 rfl,e 114 rfl,a,o,e 105 rfl,e 110 rfl,a,q,e 115 rfl,e 119 rfl,e 105 rfl,e 116 rfl,e 99 rfl,e 104 rfl,a,t,e 99 rfl,e 97 rfl,e 115 rfl,e 101 rfl,a,u,e 102 rfl,e 110 rfl,a,x,e 126 rfl,a,K9z,contains_nil,G3l,G3l]
 rfl
theorem X8l{s:Str}(h:kwsB s=true):(32:UInt8)∉s/\s≠[]:=by
 simp only[kwsB,G2d,G0l]at h
 rcases h with rfl|rfl|rfl|rfl|rfl|rfl|rfl|rfl|rfl<;>decide
theorem Q0f{α:Type}[Inhabited α](x:Option α):Q0e true x=x:=rfl
theorem Q2h{α:Type}[Inhabited α](x:Option α):Q0e false x=some default:=rfl
theorem K2j(s:Str)(g:s.length<=4000000000):F134 s=some (kwsB s):=by
 rw[F134]
 by_cases d:s=[]
 ·subst d
  rfl
 rw[G0b d,G0o]
 show(Q0h s 32).bind _=_
 rw[Q0h,G0a]
 have e:=J6f s 32
 rw[show(32:Int).toNat.toUInt8=(32:UInt8) from rfl]
 rw[e]
 by_cases a:(32:UInt8)∈s
 ·have:s.contains 32=true:=G5m.2 a
  rw[this]
  have f:kwsB s=false:=by
   cases h:kwsB s
   ·rfl
   exact absurd a (X8l h).1
  rw[f]
  rfl
 have:s.contains 32=false:=by
  cases h:s.contains 32
  ·rfl
  exact absurd (G5m.1 h) a
 rw[this]
 show(catO [32] s).bind _=_
 rw[catO,if_pos (by simp;omega),G0a]
 show(catO ([32]++s) [32]).bind _=_
 rw[catO,if_pos (by simp;omega),G0a]
 rw[G0o,G0x,Q0f,Q6b,if_pos (by decide),G0a,show([32]++s++[32]:Str)=32::(s++[32]) from rfl,J8j s a]
 rfl
theorem V0u(s:Str):((!kwsB s||decide (s=[110,111,116]))||decide (s=[105,110]))=!keyB s:=by
 by_cases a:s=[110,111,116]
 ·subst a;rfl
 by_cases d:s=[105,110]
 ·subst d;rfl
 rw[G0b a,G0b d,G3l,G3l,kwsB,keyB,G0b a,G0b d]
 simp only[G2k,G9c]
def spcB(c:Int):Bool:=(decide (c=32)||(decide (c=9)||(decide (c=10)||(decide (c=59)||(decide (c=38)||(decide (c=124)||(decide (c=40)||(decide (c=41)||(decide (c=123)||(decide (c=125)||(decide (c=60)||(decide (c=62)||(decide (c=61)||(decide (c=94)||(decide (c=96)||(decide (c=36)||decide (c=39)))))))))))))))))
theorem Q3t(a b:Bool):(bif a then a else b)=(a||b):=by cases a<;>rfl
theorem V2d(a:Bool):(bif a then some false else some true)=some (!a):=by cases a<;>rfl
theorem V3g(c:Int):F238 c=some (!spcB c):=by
 rw[F238]
 simp only[Q3t]
 rw[V2d]
 rfl
theorem X6u(x:UInt8):Q0h [32,9,10,59,38,124,40,41,123,125,60,62,61,94,96,36,39] (B x)=some (Lib.indexByte [32,9,10,59,38,124,40,41,123,125,60,62,61,94,96,36,39] x)/\decide (0<=Lib.indexByte [32,9,10,59,38,124,40,41,123,125,60,62,61,94,96,36,39] x)=spcB (B x):=by
 refine⟨?_,?_⟩
 ·rw[Q0h,B,G2l]
  congr 2
  exact G4o
 rw[<-Lib.contains_iff_indexByte,spcB]
 simp only[G3j,G4b,G3l]
 have e:∀y:UInt8,(x==y)=decide (B x=B y):=λy=>by
  rw[B,B,Q4v];by_cases h:x=y<;>simp[h]
 simp only[e]
 rfl
theorem V1c(x:UInt8):Q0h [35,33,64] (B x)=some (Lib.indexByte [35,33,64] x)/\decide (0<=Lib.indexByte [35,33,64] x)=(decide (B x=35)||(decide (B x=33)||decide (B x=64))):=by
 refine⟨?_,?_⟩
 ·rw[Q0h,B,G2l]
  congr 2
  exact G4o
 rw[<-Lib.contains_iff_indexByte]
 simp only[G3j,G4b,G3l]
 have e:∀y:UInt8,(x==y)=decide (B x=B y):=λy=>by
  rw[B,B,Q4v];by_cases h:x=y<;>simp[h]
 simp only[e]
 rfl
def mkB(q:UInt8):Bool:=decide (B q=48)||decide (B q=49)
def okQ(p:UInt8×UInt8):Bool:=mkB p.1&&!(decide (B p.1=48)&&spcB (B p.2))
def X8y:Str->Str->Bool
 | a::_,c::_=>decide (B a=49)||!(decide (B c=35)||(decide (B c=33)||decide (B c=64)))
 | _,_=>true
def Z6a(t q:Str):Bool:=decide (q.length=t.length)&&((q.zip t).all okQ&&X8y q t)
theorem X8g(w:Word)(d:w.quoted_.length<=1000000):∀n j:Nat,j<=w.quoted_.length->w.quoted_.length-j<n->iter (Z4n w) n (j:Int)=some ((w.quoted_.drop j).all mkB)
 | 0,j,_,h=>by omega
 | n+1,j,f,g=>by
   show Z4n w (iter (Z4n w) n) (j:Int)=_
   rw[Z4n]
   by_cases a:j<w.quoted_.length
   ·rw[G0h (by omega),Q0b,Q4s a,G0a,Q1v a,G2m]
    have e:(!decide ((w.quoted_[j].toNat:Int)=48)&&!decide ((w.quoted_[j].toNat:Int)=49))=!mkB w.quoted_[j]:=by rw[mkB,G6p];rfl
    rw[e]
    cases mkB w.quoted_[j]with
    | true=>
      rw[G0m,Q0a,Q0j (by omega) (by omega),G0x]
      exact X8g w d n (j+1) (by omega) (by omega)
    | false=>rfl
   rw[G0b (by omega),Q0a,G2f (by omega)]
   rfl
theorem K2c(w:Word)(a:w.quoted_.length<=1000000):F263 w=some (decide (w.text_.length=w.quoted_.length)&&w.quoted_.all mkB):=by
 rw[F263]
 by_cases h:w.text_.length=w.quoted_.length
 ·rw[G0h (p:=((w.text_.length:Int)=(w.quoted_.length:Int))) (by omega),G0h h,G0m,Q0a,G0x]
  have:=X8g w a BIG 0 (G1t _) (by unfold BIG;omega)
  rw[G2u]at this
  exact this
 rw[G0b (p:=((w.text_.length:Int)=(w.quoted_.length:Int))) (by omega),G0b h]
 rfl
theorem J8f(w:Word)(e:w.quoted_.length<=1000000)(f:w.text_.length=w.quoted_.length):∀n j:Nat,j+1<=w.quoted_.length->w.quoted_.length-(j+1)<n->iter (Q4w w) n ((j+1:Nat):Int)=some (((w.quoted_.drop (j+1)).zip (w.text_.drop (j+1))).all λp=>!(decide (B p.1=48)&&spcB (B p.2)))
 | 0,j,_,h=>by omega
 | n+1,j,t,u=>by
   show Q4w w (iter (Q4w w) n) ((j+1:Nat):Int)=_
   rw[Q4w]
   by_cases g:j+1<w.quoted_.length
   ·have l:j+1<w.text_.length:=by omega
    obtain⟨m,o⟩:=X6u w.text_[j+1]
    rw[G0h (p:=(((j+1:Nat):Int)<(w.text_.length:Int))) (by omega),Q0b,Q4s g,G0a,Q4s l,Q1v g,Q1v l,G6a,G2m]
    have q:decide (((j+1:Nat):Int)=0)=false:=G0b (by omega)
    rw[q]
    by_cases a:(w.quoted_[j+1].toNat:Int)=48
    ·have d:B w.quoted_[j+1]=48:=a
     rw[G0h a,G0h d,Q0f,G0a,Q0f]
     rw[show((w.text_[j+1].toNat:Int))=B w.text_[j+1] from rfl,m,G0a,o]
     cases spcB (B w.text_[j+1])with
     | true=>rfl
     | false=>
       show(bif false then some false else iter (Q4w w) n (IntKind.wrap .i64 (((j+1:Nat):Int)+1)))=_
       rw[Q0a,Q0j (by omega) (by omega)]
       exact J8f w e f n (j+1) (by omega) (by omega)
    have d:¬ B w.quoted_[j+1]=48:=a
    rw[G0b a,G0b d]
    show(bif false then some false else iter (Q4w w) n (IntKind.wrap .i64 (((j+1:Nat):Int)+1)))=_
    rw[Q0a,Q0j (by omega) (by omega)]
    exact J8f w e f n (j+1) (by omega) (by omega)
   rw[G0b (p:=(((j+1:Nat):Int)<(w.text_.length:Int))) (by omega),Q0a,show List.drop _ w.quoted_=[] from G2f (by omega)]
   rfl
theorem J9i{α:Type}(p q:α->Bool):∀l:List α,l.all (λx=>p x&&q x)=(l.all p&&l.all q)
 | []=>rfl
 | x::r=>by
   rw[G2m,G2m,G2m,J9i p q r]
   cases p x<;>cases q x<;>cases r.all p<;>rfl
theorem K0s(p:UInt8->Bool):∀q t:Str,q.length=t.length->(q.zip t).all (λx=>p x.1)=q.all p
 | [],[],_=>rfl
 | a::q,c::t,h=>by
   rw[G6a,G2m,G2m,K0s p q t (by simpa using h)]
theorem Y5i{a:UInt8}(h:mkB a=true):decide (B a=49)=!decide (B a=48):=by
 simp only[mkB,G2d,G0l]at h
 rcases h with h|h
 ·rw[G0h h,G0b (by omega)];rfl
 rw[G0h h,G0b (by omega)];rfl
theorem V3d(w:Word)(e:w.quoted_.length<=1000000):F278 w=some (Z6a w.text_ w.quoted_):=by
 rw[F278,K2c w e,G0a,Z6a]
 by_cases d:w.text_.length=w.quoted_.length
 ·rw[G0h d,G0h d.symm,G0x,G0x]
  have hs:((w.quoted_.zip w.text_).all okQ)=(w.quoted_.all mkB&&(w.quoted_.zip w.text_).all λp=>!(decide (B p.1=48)&&spcB (B p.2))):=by
   rw[<-K0s mkB w.quoted_ w.text_ d.symm,<-J9i]
   rfl
  rw[hs]
  cases f:w.quoted_.all mkB with
  | false=>rfl
  | true=>
    rw[G0m,Q0a,G0x]
    show Q4w w (iter (Q4w w) 1180591620717411303423) 0=_
    rw[Q4w]
    cases hq:w.quoted_ with
    | nil=>
      rw[hq]at d
      have:w.text_=[]:=G0u d
      rw[this]
      rfl
    | cons a q=>
      cases g:w.text_ with
      | nil=>rw[hq,g]at d;cases d
      | cons c t=>
        have m:0+1<=w.quoted_.length:=by rw[hq];simp
        have rest:=J8f w e d 1180591620717411303423 0 m (by omega)
        rw[hq,g]at rest
        rw[hq,G2m,G0d]at f
        have o:=Y5i f.1
        obtain⟨u,x⟩:=X6u c
        obtain⟨y,z⟩:=V1c c
        rw[show(sidx (a::q) 0)=some (B a) from rfl,show(sidx (c::t) 0)=some (B c) from rfl,G0a,G6a,G2m,X8y,o]
        rw[G0h (p:=((0:Int)<((c::t).length:Int))) (by simp),Q0b]
        have A:iter (Q4w w) 1180591620717411303423 (IntKind.wrap .i64 (0+1))=some ((q.zip t).all λp=>!(decide (B p.1=48)&&spcB (B p.2))):=rest
        rw[A]
        by_cases l:B a=48
        ·rw[G0h l,Q0f,G0a,Q0f,u,G0a,x]
         cases C:spcB (B c)with
         | true=>rfl
         | false=>
           show(Q0h [35,33,64] (B c)).bind _=_
           rw[y,G0a]
           have:decide ((0:Int)=0)=true:=rfl
           rw[this,z]
           cases(decide (B c=35)||(decide (B c=33)||decide (B c=64)))with
           | true=>cases((q.zip t).all λp=>!(decide (B p.1=48)&&spcB (B p.2)))<;>rfl
           | false=>cases((q.zip t).all λp=>!(decide (B p.1=48)&&spcB (B p.2)))<;>rfl
        rw[G0b l]
        show some _=_
        cases((q.zip t).all λp=>!(decide (B p.1=48)&&spcB (B p.2)))<;>rfl
 rw[G0b d,G0b (λh=>d h.symm)]
 rfl
theorem J8g(w:Word)(l:w.text_.length<=1000000)(d:w.text_.length=w.quoted_.length):∀n j:Nat,j<=w.quoted_.length->w.quoted_.length-j<n->iter (Q9r w) n (j:Int)=some (((w.quoted_.drop j).zip (w.text_.drop j)).all okQ&&X8y w.quoted_ w.text_)
 | 0,j,_,h=>by omega
 | n+1,j,x,y=>by
   show Q9r w (iter (Q9r w) n) (j:Int)=_
   rw[Q9r]
   by_cases m:j<w.quoted_.length
   ·have o:j<w.text_.length:=by omega
    rw[G0h (p:=((j:Int)<(w.text_.length:Int))) (by omega),Q0b,Q4s m,G0a,Q4s o,Q1v m,Q1v o,G6a,G2m]
    have e:(!decide ((w.quoted_[j].toNat:Int)=48)&&!decide ((w.quoted_[j].toNat:Int)=49))=!mkB w.quoted_[j]:=by rw[mkB,G6p];rfl
    rw[e,okQ]
    cases z:mkB w.quoted_[j]with
    | false=>rfl
    | true=>
      by_cases f:(w.quoted_[j].toNat:Int)=48
      ·have g:B w.quoted_[j]=48:=f
       rw[G0h f,G0h g]
       show(F238 _).bind _=_
       rw[V3g,G0a,show((w.text_[j].toNat:Int))=B w.text_[j] from rfl]
       cases spcB (B w.text_[j])with
       | true=>rfl
       | false=>
         show(bif false then some false else iter (Q9r w) n (IntKind.wrap .i64 ((j:Int)+1)))=_
         rw[Q0a,Q0j (by omega) (by omega)]
         exact J8g w l d n (j+1) (by omega) (by omega)
      have g:¬ B w.quoted_[j]=48:=f
      rw[G0b f,G0b g]
      show(bif false then some false else iter (Q9r w) n (IntKind.wrap .i64 ((j:Int)+1)))=_
      rw[Q0a,Q0j (by omega) (by omega)]
      exact J8g w l d n (j+1) (by omega) (by omega)
   rw[G0b (p:=((j:Int)<(w.text_.length:Int))) (by omega),Q0a,show List.drop _ w.quoted_=[] from G2f (by omega),List.zip_nil_left,G4z,G0x]
   cases hq:w.quoted_ with
   | nil=>
     rw[hq]at d
     rw[G0u d]
     rfl
   | cons a q=>
     cases u:w.text_ with
     | nil=>rw[hq,u]at d;cases d
     | cons c t=>
       rw[X8y,show(sidx (a::q) 0)=some (B a) from rfl,show(sidx (c::t) 0)=some (B c) from rfl,G0b (p:=(c::t=([]:Str))) (by simp)]
       show(Q0e _ (some (B c))).bind _=_
       cases decide (B a=49)with
       | true=>rfl
       | false=>
         show some _=_
         rw[G3l,G2k,G2k,G6p,G6p,G6l]
theorem V3j(w:Word)(d:w.text_.length<=1000000):F214 w=some (Z6a w.text_ w.quoted_):=by
 rw[F214,Z6a]
 by_cases a:w.text_.length=w.quoted_.length
 ·rw[G0h (p:=((w.quoted_.length:Int)=(w.text_.length:Int))) (by omega),G0h a.symm,G0m,Q0a,G0x]
  have:=J8g w d a BIG 0 (G1t _) (by unfold BIG;omega)
  rw[G2u,G2u]at this
  exact this
 rw[G0b (p:=((w.quoted_.length:Int)=(w.text_.length:Int))) (by omega),G0b (λh=>a h.symm)]
 rfl
def eT:Token:=Token.mk 0 0 [] []
def tp(T:List Token)(i:Int):Token:=T.getD i.toNat eT
def atf(S:Str)(T:List Token)(i:Int):Int:=if i<T.length then(tp T i).at_ else S.length
def isT(t:Token)(s:Str):Bool:=decide (t.kind_=2)&&decide (t.text_=s)
theorem X9d(T:List Token)(n:Nat)(d e:Token):T.getD n d=if n<T.length then T.getD n e else d:=by
 by_cases h:n<T.length
 ·rw[if_pos h,G0y,G0y,G0f h]
  rfl
 rw[if_neg h,G0y,G2c (by omega)]
 rfl
theorem X6i{T:List Token}{i:Int}(h:(T.length:Int)<=i):tp T i=eT:=by
 rw[tp,X9d _ _ _ eT,if_neg (by omega)]
theorem Z8g{T:List Token}{i:Int}(a:0<=i)(h:i<T.length):lidx T i=some (tp T i):=by
 have d:i.toNat<T.length:=by omega
 rw[lidx,if_pos a,tp,G0y,G0f d]
 rfl
section
variable {S:Str}{T:List Token}{D:List Str}{i:Int}
theorem wr1(a:0<=i)(h:i<=4611686018427387904):IntKind.wrap .i64 (i+1)=i+1:=Q0j (by omega) (by omega)
theorem Y3d(k:Int)(hk:0<=k/\k<=1)(d:0<=i)(h:i<=4611686018427387904):F84 k S T D i=some (tp T (i+k)):=by
 rw[F84,Q0j (by omega) (by omega)]
 by_cases a:(T.length:Int)<=i+k
 ·rw[G0h a,Q0b,X6i a]
  rfl
 rw[G0b a,Q0a,Z8g (by omega) (by omega),G0a]
theorem Q1r(a:0<=i)(h:i<=4611686018427387904):F84 0 S T D i=some (tp T i):=by
 rw[Y3d 0 (by omega) a h,Int.add_zero]
theorem Y3e(a:0<=i)(h:i<=4611686018427387904):F84 1 S T D i=some (tp T (i+1)):=Y3d 1 (by omega) a h
theorem Z9v(t:Token)(s:Str):F128 t s=some (isT t s):=rfl
theorem Z4x(s:Str)(a:0<=i)(h:i<=4611686018427387904):F127 s S T D i=some (isT (tp T i) s):=by
 rw[F127,Q1r a h,G0a,Z9v,G0a]
def plT(t:Token):Bool:=decide (t.kind_=1)&&!Q2k t.quoted_
def kwT(t:Token):Str:=bif plT t&&kwsB t.text_ then t.text_ else[]
def keyT(t:Token)(s:Str):Bool:=(decide (t.kind_=1)&&decide (t.text_=s))&&!Q2k t.quoted_
def bW(t:Token):Bool:=decide (t.kind_=1)||(((isT t [36]||isT t [36,35])||isT t [40])||isT t [96])
def c0(s:Str):Int:=(s.head?.map B).getD 0
def bR(t:Token):Bool:=decide (t.kind_=4)||(decide (t.kind_=2)&&(decide (c0 t.text_=60)||decide (c0 t.text_=62)))
def bC(t:Token):Bool:=(((bW t||bR t)||isT t [33])||isT t [64])||isT t [123]
def asg(T:List Token)(i:Int):Bool:=(plT (tp T i)&&nameB (tp T i).text_)&&isT (tp T (i+1)) [61]
theorem X0g(t:Token):F133 t=some (plT t):=by
 rw[F133,plT]
 cases decide (t.kind_=1)with
 | false=>rfl
 | true=>
   rw[Q0f,Q4j,G0a,J6f]
   rfl
structure OkT(T:List Token):Prop where
 len:T.length<=1000000
 txt:∀t∈T,t.text_.length<=1000000/\t.quoted_.length<=1000000
 sym:∀t∈T,t.kind_=2->t.text_≠[]
theorem K6m{T:List Token}{i:Int}:tp T i∈T\/tp T i=eT:=by
 by_cases h:i.toNat<T.length
 ·left
  rw[tp,G0y,G0f h]
  exact G4d h
 right
 rw[tp,X9d _ _ _ eT,if_neg h]
theorem OkT.tl(h:OkT T)(i:Int):(tp T i).text_.length<=1000000/\(tp T i).quoted_.length<=1000000/\((tp T i).kind_=2->(tp T i).text_≠[]):=by
 rcases K6m (T:=T) (i:=i)with a|a
 ·exact⟨(h.txt _ a).1,(h.txt _ a).2,h.sym _ a⟩
 rw[a]
 exact⟨by decide,by decide,λe=>by cases e⟩
theorem Z9m{t:Token}(h:t.text_.length<=1000000):F83 t=some (kwT t):=by
 rw[F83,X0g,G0a,kwT]
 cases plT t with
 | false=>rfl
 | true=>
   rw[Q0f,K2j _ (by omega),G0a,G0x]
   cases kwsB t.text_<;>rfl
theorem V4u{s:Str}(h:s≠[]):sidx s 0=some (c0 s):=by
 cases s with
 | nil=>exact absurd rfl h
 | cons c r=>rfl
theorem Z4w{t:Token}(h:t.kind_=2->t.text_≠[]):F130 t=some (bR t):=by
 rw[F130,bR]
 by_cases a:t.kind_=2
 ·have d:¬ t.kind_=4:=by omega
  rw[G0h a,G0b d]
  simp only[G0o,G9d,Q0f,V4u (h a),G0a]
 rw[G0b a]
 cases decide (t.kind_=4)<;>rfl
theorem Q2y(t:Token):F129 t=some (bW t):=by
 rw[F129,bW]
 cases decide (t.kind_=1)with
 | true=>rfl
 | false=>
   simp only[Z9v,G0a,Q0a,G2k]
   cases isT t [36]<;>simp only[G0o,G0m,Q0f,Q2h,G0a,G4t,G2k,G7h]
   cases isT t [36,35]<;>simp only[G0o,G0m,Q0f,Q2h,G0a,G4t,G2k]
   cases isT t [40]<;>simp only[G0o,G0m,Q0f,Q2h,G0a,G4t,G2k]
theorem K6a(a:OkT T)(d:0<=i)(h:i<=4611686018427387904):F81 false S T D i=some (bC (tp T i)):=by
 simp only[F81,Q1r d h,G0a,Q2h,G3b,Q0a,Q2y,Z4w (a.tl i).2.2,Z9v,bC]
 cases bW (tp T i)<;>simp only[G0o,G0m,Q0f,Q2h,G0a,G4t,G2k,G7h]
 cases bR (tp T i)<;>simp only[G0o,G0m,Q0f,Q2h,G0a,G4t,G2k]
 cases isT (tp T i) [33]<;>simp only[G0o,G0m,Q0f,Q2h,G0a,G4t,G2k]
 cases isT (tp T i) [64]<;>simp only[G0o,G0m,Q0f,Q2h,G0a,G4t,G2k]
theorem Q7w{t:Token}{s:Str}(hk:kwsB s=true):decide (kwT t=s)=keyT t s:=by
 have hs:=(X8l hk).2
 rw[kwT,keyT,plT]
 by_cases a:t.text_=s
 ·rw[a,hk,G0h rfl]
  cases decide (t.kind_=1)<;>cases Q2k t.quoted_<;>simp[hs]<;>exact λe=>hs e.symm
 rw[G0b a]
 simp only[G2s,G3b]
 rw[G0b]
 intro e
 cases d:(decide (t.kind_=1)&&!Q2k t.quoted_)&&kwsB t.text_ with
 | true=>rw[d,Q0b]at e;exact a e
 | false=>rw[d,Q0a]at e;exact hs e.symm
def csT(T:List Token)(i:Int):Bool:=keyT (tp T i) [99,97,115,101]&&!isT (tp T (i+1)) [61]
theorem Y9q(e:OkT T)(a:0<=i)(h:i<=4611686018427387904):F81 true S T D i=some (!csT T i&&bC (tp T i)):=by
 have hk:kwsB [99,97,115,101]=true:=by kernel_rfl
 have d:=K6a (S:=S) (D:=D) e a h
 simp only[F81,Q1r a h,G0a,Q2h,G3b,Q0a]at d
 simp only[F81,Q1r a h,G0a,Q0f,Z9m (e.tl i).1,G0x,Q7w hk,Y3e a h,Z9v (tp T (i+1)),csT]
 cases keyT (tp T i) [99,97,115,101]with
 | false=>
   rw[Q0a,d]
   rfl
 | true=>
   rw[Q0b]
   cases isT (tp T (i+1)) [61]with
   | true=>
     simp only[G0m,Q0a]
     rw[d]
     rfl
   | false=>rfl
theorem Y4q{T:List Token}{i:Int}(h:(tp T i).kind_≠0)(d:0<=i):i<T.length:=by
 rcases Int.lt_or_le i T.length with a|a
 ·exact a
 rw[X6i a]at h
 exact absurd rfl h
theorem V6j{T:List Token}{i:Int}{s:Str}(h:isT (tp T i) s=true)(a:0<=i):i<T.length:=by
 rw[isT,G0d,G0l]at h
 exact Y4q (by rw[h.1];decide) a
def gapT(t:Token):Bool:=decide (t.kind_=3)||isT t [59]
end
def Ag{α:Type}(P:α->Int->Prop)(N d b:Int)(p:Option (Int ⊕ (α×Int)))(r:Option (α×Int×Int×Int)):Prop:=
 (∃a j,p=some (.inr (a,j))/\r=some (a,j,0,0)/\P a j/\d<=j/\j<=N)\/(∃n a j,p=some (.inl n)/\r=some (a,j,47,n)/\0<=j/\j<=b)
section
variable {α β:Type}{P:α->Int->Prop}{P':β->Int->Prop}{N i i' b b':Int}
end
abbrev PCm:=Bool->Str->List Token->List Str->Int->Option (Int ⊕ (Cmd×Int))
abbrev PWd:=Str->List Token->List Str->Int->Option (Int ⊕ (Word×Int))
abbrev RCm:=Str->List Token->List Str->Int->Int->Int->Option (Cmd×Int×Int×Int)
abbrev RWd:=Str->List Token->List Str->Int->Int->Int->Option (Word×Int×Int×Int)
def Kc(i:Int)(a:Cmd)(j:Int):Prop:=a.kind_≠14/\(nC a:Int)+4<=8 * (j-i)
def Kw(i:Int)(a:Word)(j:Int):Prop:=(nW a:Int)+5<=8 * (j-i)
structure HC(S:Str)(T:List Token)(D:List Str)(b ic:Int)(wc:PCm)(vc:RCm):Prop where
 ag:∀ (c:Bool) (i:Int),ic<=i->i<=T.length->Ag (Kc i) T.length (i+1) b (wc c S T D i) (vc S T D i 0 0)
 no:∀ (c:Bool) (i:Int),ic<=i->i<=T.length->bC (tp T i)=false->wc c S T D i=some (.inl (atf S T i))
 on:∀ (j n:Int),0<=j->∃a,vc S T D j 47 n=some (a,j,47,n)
structure HW(S:Str)(T:List Token)(D:List Str)(b iw:Int)(ww:PWd)(vw:RWd):Prop where
 ag:∀ (i:Int),iw<=i->i<=T.length->Ag (Kw i) T.length (i+1) b (ww S T D i) (vw S T D i 0 0)
 no:∀ (i:Int),iw<=i->i<=T.length->bW (tp T i)=false->ww S T D i=some (.inl (atf S T i))
 on:∀ (j n:Int),0<=j->j<=2900000000000000000->∃a j',vw S T D j 47 n=some (a,j',47,n)/\j<=j'/\j'<=j+3
section
variable {S:Str}{T:List Token}{D:List Str}{b ic iw:Int}{wc:PCm}{vc:RCm}{ww:PWd}{vw:RWd}
theorem e00:decide ((0:Int)=0)=true:=rfl
theorem e47:decide ((47:Int)=0)=false:=rfl
theorem Q3i(s:Str){i:Int}(a:0<=i)(h:i<=4611686018427387904):F132 s S T D i=some (isT (tp T i) s,bif isT (tp T i) s then i+1 else i):=by
 rw[F132,Z4x _ a h,G0a,wr1 a h]
end
section
variable {S:Str}{T:List Token}{D:List Str}{b ic iw:Int}{wc:PCm}{vc:RCm}{ww:PWd}{vw:RWd}
end
section
variable {S:Str}{T:List Token}{D:List Str}{b ic iw:Int}{wc:PCm}{vc:RCm}{ww:PWd}{vw:RWd}
theorem Z8x(c:Bool)(a:OkT T){i:Int}(d:0<=i)(h:i<=4611686018427387904):F81 c S T D i=some (!(c&&csT T i)&&bC (tp T i)):=by
 cases c with
 | false=>rw[K6a a d h];rfl
 | true=>rw[Y9q a d h];rfl
end
section
variable {S:Str}{T:List Token}{D:List Str}{b ic iw:Int}{wc:PCm}{vc:RCm}{ww:PWd}{vw:RWd}{i j n:Int}
theorem Y3p(e:OkT T)(d:0<=i)(h:i<=4000000000000000000)(a:(plT (tp T i)&&nameB (tp T i).text_)=true):F256 S T D i=some (.inr ((tp T i).text_,i+1)):=by
 rw[G0d]at a
 rw[F256,Q1r d (by omega),G0a,X0g,G0a,a.1,Q0f,J4r _ (by have:=(e.tl i).1;omega),G0a,a.2,wr1 d (by omega)]
 rfl
theorem Z1f{s:Str}(a:0<=i)(h:i<=4000000000000000000)(hs:isT (tp T i) s=true):F255 s S T D i=some (.inr ((tp T i).at_,i+1)):=by
 rw[F255,Q1r a (by omega),G0a,Q3i _ a (by omega),hs]
 rfl
end
section
variable {S:Str}{T:List Token}{D:List Str}{b ic iw:Int}{wc:PCm}{vc:RCm}{ww:PWd}{vw:RWd}{i j n:Int}
end
section
variable {S:Str}{T:List Token}{D:List Str}{b ic iw:Int}{wc:PCm}{vc:RCm}{ww:PWd}{vw:RWd}{i j n:Int}
end
def lev(k:Int):Int:=
 bif (decide (k=1)||(decide (k=2)||(decide (k=7)||(decide (k=8)||(decide (k=9)||(decide (k=10)||(decide (k=11)||(decide (k=12)||(decide (k=13)||(decide (k=15)||(decide (k=16)||decide (k=17))))))))))))then 1
 else bif decide (k=3)then 2 else bif (decide (k=5)||decide (k=6))then 3 else bif decide (k=14)then 4 else 0
theorem V4d(k:Int):F100 k=some (lev k):=by
 rw[F100,lev]
 simp only[Q3t]
 generalize (decide (k=1)||(decide (k=2)||(decide (k=7)||(decide (k=8)||(decide (k=9)||(decide (k=10)||(decide (k=11)||(decide (k=12)||(decide (k=13)||(decide (k=15)||(decide (k=16)||decide (k=17))))))))))))=a
 generalize decide (k=3)=b
 generalize (decide (k=5)||decide (k=6))=c
 generalize decide (k=14)=d
 cases a<;>cases b<;>cases c<;>cases d<;>rfl
def lvl(a k:Int):Bool:=!(decide (lev k<1)||decide (a<lev k))
def Q0x(k:Int)(nm:Str)(w r c:Nat):Bool:=
 bif (((((decide (k=2)||decide (k=10))||decide (k=15))&&!nameB nm)||(!((decide (k=2)||decide (k=10))||decide (k=15))&&!decide (nm=[])))||((decide (0<r)&&!decide (k=1))&&!decide (k=12)))then false
 else bif decide (k=1)then(decide (0<w+r)&&decide (c=0))
 else bif decide (k=2)then(decide (w=1)&&decide (c<=1))
 else bif (decide (k=7)||(decide (k=13)||(decide (k=9)||decide (k=14))))then(decide (w=0)&&decide (c=1))
 else bif (decide (k=8)||(decide (k=11)||(decide (k=5)||decide (k=6))))then(decide (w=0)&&decide (c=2))
 else bif decide (k=10)then decide (c=1)
 else bif (decide (k=12)||decide (k=15))then decide (w=0)
 else bif decide (k=3)then(decide (w=0)&&decide (2<=c))
 else bif decide (k=16)then(decide (0<w)&&decide (c=0))
 else(decide (k=17)&&decide (w=1))
def Z8e(w:Word):Bool:=(((decide (w.kind_=0)&&decide (w.text_=[]))&&decide (w.quoted_=[]))&&decide (w.words_.length+w.cmd_.length=0))
def J6d(t:Str):Bool:=decide (t.getLast?=some 10)
def J8p(fd:Int)(w:Word):Bool:=
 ((((decide (fd=0)&&decide (w.kind_=1))&&decide (w.quoted_=List.replicate w.text_.length 48))&&decide (w.words_.length+w.cmd_.length=0))&&(decide (w.text_=[])||J6d w.text_))
def J7p(w:Word):Bool:=(decide (w.kind_=1)&&keyB w.text_)&&!Q2k w.quoted_
def Q5u:List Word->Bool
 | []=>false
 | w::_=>bif decide (w.kind_=4)then(match w.words_ with|[]=>false|u::_=>J7p u)else J7p w
mutual
def rW:Word->Bool
 | ⟨k,t,q,ws,cs⟩=>
   bif decide (k=1)then Z6a t q&&decide (ws.length+cs.length=0)
   else bif (decide (k=2)||decide (k=3))then(nameB t&&decide (q=[]))&&decide (ws.length+cs.length=0)
   else bif decide (k=7)then(((nameB t&&decide (q=[]))&&decide (0<ws.length))&&decide (cs.length=0))&&rWs ws
   else bif decide (k=5)then((decide (t=[])&&decide (q=[]))&&decide (cs.length=0))&&rWs ws
   else bif decide (k=6)then((decide (t=[])&&decide (q=[]))&&decide (ws.length=0))&&rUp cs 4
   else bif decide (k=4)then(ws.all λx=>!decide (x.kind_=4))&&((((decide (t=[])&&decide (q=[]))&&decide (1<ws.length))&&decide (cs.length=0))&&rWs ws)
   else false
def rWs:List Word->Bool
 | []=>true
 | w::r=>rW w&&rWs r
def rC:Cmd->Bool
 | ⟨k,_,nm,ws,rs,ks⟩=>((Q0x k nm ws.length rs.length ks.length&&rWs ws)&&rRs rs) &&
   (bif decide (k=1)then(decide (ws.length=0)||!Q5u ws)
   else bif (decide (k=8)||decide (k=11))then rIf ks
   else bif (decide (k=12)||decide (k=15))then rUp ks 4
   else bif (decide (k=5)||decide (k=6))then rAnd ks
   else bif decide (k=14)then rUp ks 3
   else bif decide (k=17)then Q3v ks
   else rUp ks 1)
def rUp:List Cmd->Int->Bool
 | [],_=>true
 | c::r,m=>(lvl m c.kind_&&rC c)&&rUp r m
def rIf:List Cmd->Bool
 | []=>false
 | c::r=>((decide (c.kind_=12)&&decide (c.redirs_.length=0))&&rC c)&&rUp r 1
def rAnd:List Cmd->Bool
 | []=>true
 | c::r=>(lvl 3 c.kind_&&rC c)&&rUp r 2
def Q5p:Cmd->Bool
 | ⟨k,_,nm,ws,rs,ks⟩=>((((decide (k=18)&&decide (nm=[]))&&decide (rs.length=0))&&!decide (ws.length=0))&&rWs ws)&&rUp ks 4
def Q3v:List Cmd->Bool
 | []=>true
 | c::r=>Q5p c&&Q3v r
def rR:Redir->Bool
 | ⟨k,fd,a,w,raw⟩=>
   bif (((((decide (fd<0)||decide (64<=fd))||decide (a<0))||decide (64<=a))||(!decide (k=5)&&!decide (a=0)))||(!decide (k=4)&&raw))then false
   else bif (decide (k=1)||(decide (k=2)||decide (k=3)))then rW w
   else bif (decide (k=5)||decide (k=6))then Z8e w
   else bif decide (k=4)then J8p fd w
   else false
def rRs:List Redir->Bool
 | []=>true
 | r::s=>rR r&&rRs s
end
theorem Z7k:∀l,rWs l=l.all rW
 | []=>by rw[rWs];rfl
 | x::r=>by rw[rWs,Z7k r];rfl
theorem J7s:∀l,rRs l=l.all rR
 | []=>by rw[rRs];rfl
 | x::r=>by rw[rRs,J7s r];rfl
theorem Z3o:∀l,Q3v l=l.all Q5p
 | []=>by rw[Q3v];rfl
 | x::r=>by rw[Q3v,Z3o r];rfl
theorem Q3m(m:Int):∀l,rUp l m=l.all λc=>lvl m c.kind_&&rC c
 | []=>by rw[rUp];rfl
 | x::r=>by rw[rUp,Q3m m r];rfl
theorem Q7o(c:Cmd):rC c=(((Q0x c.kind_ c.name_ c.words_.length c.redirs_.length c.kids_.length&&c.words_.all rW)&&c.redirs_.all rR) &&
 (bif decide (c.kind_=1)then(decide (c.words_.length=0)||!Q5u c.words_)
 else bif (decide (c.kind_=8)||decide (c.kind_=11))then rIf c.kids_
 else bif (decide (c.kind_=12)||decide (c.kind_=15))then c.kids_.all λc=>lvl 4 c.kind_&&rC c
 else bif (decide (c.kind_=5)||decide (c.kind_=6))then rAnd c.kids_
 else bif decide (c.kind_=14)then c.kids_.all λc=>lvl 3 c.kind_&&rC c
 else bif decide (c.kind_=17)then c.kids_.all Q5p
 else c.kids_.all λc=>lvl 1 c.kind_&&rC c)):=by
 obtain⟨_,_,_,ws,rs,ks⟩:=c
 rw[rC,Z7k,J7s,Z3o,Q3m,Q3m,Q3m]
theorem X7j(w:Word):rW w=
 (bif decide (w.kind_=1)then Z6a w.text_ w.quoted_&&decide (w.words_.length+w.cmd_.length=0)
 else bif (decide (w.kind_=2)||decide (w.kind_=3))then(nameB w.text_&&decide (w.quoted_=[]))&&decide (w.words_.length+w.cmd_.length=0)
 else bif decide (w.kind_=7)then(((nameB w.text_&&decide (w.quoted_=[]))&&decide (0<w.words_.length))&&decide (w.cmd_.length=0))&&w.words_.all rW
 else bif decide (w.kind_=5)then((decide (w.text_=[])&&decide (w.quoted_=[]))&&decide (w.cmd_.length=0))&&w.words_.all rW
 else bif decide (w.kind_=6)then((decide (w.text_=[])&&decide (w.quoted_=[]))&&decide (w.words_.length=0))&&w.cmd_.all λc=>lvl 4 c.kind_&&rC c
 else bif decide (w.kind_=4)then(w.words_.all λx=>!decide (x.kind_=4))&&((((decide (w.text_=[])&&decide (w.quoted_=[]))&&decide (1<w.words_.length))&&decide (w.cmd_.length=0))&&w.words_.all rW)
 else false):=by
 obtain⟨_,_,_,ws,cs⟩:=w
 rw[rW,Z7k,Q3m]
theorem J2v(c:Cmd):Q5p c=(((((decide (c.kind_=18)&&decide (c.name_=[]))&&decide (c.redirs_.length=0))&&!decide (c.words_.length=0))&&c.words_.all rW)&&c.kids_.all λc=>lvl 4 c.kind_&&rC c):=by
 obtain⟨_,_,_,ws,rs,ks⟩:=c
 rw[Q5p,Z7k,Q3m]
theorem K3i(r:Redir):rR r=
 (bif (((((decide (r.fd_<0)||decide (64<=r.fd_))||decide (r.from_<0))||decide (64<=r.from_))||(!decide (r.kind_=5)&&!decide (r.from_=0)))||(!decide (r.kind_=4)&&r.raw_))then false
 else bif (decide (r.kind_=1)||(decide (r.kind_=2)||decide (r.kind_=3)))then rW r.word_
 else bif (decide (r.kind_=5)||decide (r.kind_=6))then Z8e r.word_
 else bif decide (r.kind_=4)then J8p r.fd_ r.word_
 else false):=by
 obtain⟨_,_,_,w,_⟩:=r
 rw[rR]
theorem V0w(n m:Nat):decide (IntKind.wrap .i64 ((n:Int)+(m:Int))=0)=decide (n+m=0)\/1000000<n+m:=by
 by_cases h:n+m<=1000000
 ·left
  rw[Q0j (by omega) (by omega)]
  exact G1e.2 (by omega)
 right;omega
theorem sum0{n m:Nat}(h:n+m<=1000000):decide (IntKind.wrap .i64 ((n:Int)+(m:Int))=0)=decide (n+m=0):=by
 rcases V0w n m with h'|h'
 ·exact h'
 omega
theorem dN(n k:Nat):decide ((n:Int)=(k:Int))=decide (n=k):=G1e.2 (by omega)
theorem Q3z{b:Bool}{x:Option Bool}{v:Bool}(h:b=true->x=some v):(Q0e b x).bind (λr=>some (b&&r))=some (b&&v):=by
 cases b with
 | true=>rw[Q0f,h rfl];rfl
 | false=>rfl
theorem K0t(a:Word->Option Bool)(p:Word->Bool)(l:List Word)(d:l.length<=1000000)(h:∀x∈l,a x=some (p x)):F146 a l=some (l.all p):=by
 rw[F146,Q1e (body:=X0f l a) l (λu _ k=>(a u).bind λr=>bif !r then some false else k) (some true) (λ_ _=>rfl) (by omega),Z2m p a true l 0 h,G2x]
theorem up65(e:Cmd->Option Bool)(l:List Cmd)(a:Int)(p:l.length<=1000000)(h:∀x∈l,e x=some (rC x)):F65 e l a=some (l.all λc=>lvl a c.kind_&&rC c):=by
 rw[F65,Q1e (body:=K1v l a e) l (λu _ k=>(F100 u.kind_).bind λd=>(Q0e (!(decide (d<1)||decide (a<d))) (e u)).bind λf=>bif ((decide (d<1)||decide (a<d))||!f)then some false else k) (some true) (λ_ _=>rfl) (by omega)]
 have:∀ (r:List Cmd) (i:Int),(∀x∈r,e x=some (rC x))->Q3p (λ(u:Cmd) _ k=>(F100 u.kind_).bind λd=>(Q0e (!(decide (d<1)||decide (a<d))) (e u)).bind λf=>bif ((decide (d<1)||decide (a<d))||!f)then some false else k) (some true) r i=some (r.all λc=>lvl a c.kind_&&rC c):=by
  intro r
  induction r with
  | nil=>intro i _;rfl
  | cons u r m=>
    intro i g
    rw[Q3p,V4d,G0a,g u (by simp),G2m,lvl]
    cases(decide (lev u.kind_<1)||decide (a<lev u.kind_))with
    | true=>rfl
    | false=>
      rw[G0o,Q0f,G0a,G0x,G2k]
      cases rC u with
      | true=>rw[G0m,Q0a,m (i+1) (λy o=>g y (by simp[o])),G0x]
      | false=>rfl
 exact this l 0 h
theorem V3y(c:Cmd)(p:c.name_.length<=1000000)(q:c.words_.length+c.redirs_.length<=1000000):F145 c=some (Q0x c.kind_ c.name_ c.words_.length c.redirs_.length c.kids_.length):=by
 rw[F145,Q0x]
 have e:decide ((0:Int)<(c.redirs_.length:Int))=decide (0<c.redirs_.length):=G1e.2 (by omega)
 have f:decide (0<IntKind.wrap .i64 ((c.words_.length:Int)+(c.redirs_.length:Int)))=decide (0<c.words_.length+c.redirs_.length):=by
  rw[Q0j (by omega) (by omega)]
  exact G1e.2 (by omega)
 have d:∀n k:Nat,decide ((n:Int)=(k:Int))=decide (n=k):=dN
 have k0:=d c.kids_.length 0
 have k1:=d c.kids_.length 1
 have k2:=d c.kids_.length 2
 have w0:=d c.words_.length 0
 have w1:=d c.words_.length 1
 have g:decide ((c.kids_.length:Int)<=1)=decide (c.kids_.length<=1):=G1e.2 (by omega)
 have l:decide (2<=(c.kids_.length:Int))=decide (2<=c.kids_.length):=G1e.2 (by omega)
 have m:decide (0<(c.words_.length:Int))=decide (0<c.words_.length):=G1e.2 (by omega)
 simp only[Int.ofNat_zero,Int.ofNat_one,show((0:Nat):Int)=0 from rfl,show((1:Nat):Int)=1 from rfl,show((2:Nat):Int)=2 from rfl]at k0 k1 k2 w0 w1
 simp only[Q3t,e,f,k0,k1,k2,w0,w1,g,l,m]
 have o:∀b:Bool,Q0e b (F172 c.name_)=some (b&&nameB c.name_):=λb=>by
  cases b
  ·rfl
  rw[Q0f,X0b _ (by omega),G0x]
 rw[o,G0a]
 have hb:∀a n:Bool,(a&&!(a&&n))=(a&&!n):=λa n=>by cases a<;>rfl
 rw[hb]
 generalize (((decide (c.kind_=2)||decide (c.kind_=10))||decide (c.kind_=15))&&!nameB c.name_||!((decide (c.kind_=2)||decide (c.kind_=10))||decide (c.kind_=15))&&!decide (c.name_=[])||decide (0<c.redirs_.length)&&!decide (c.kind_=1)&&!decide (c.kind_=12))=x0
 generalize decide (c.kind_=1)=x1
 generalize (decide (c.kind_=7)||(decide (c.kind_=13)||(decide (c.kind_=9)||decide (c.kind_=14))))=x3
 generalize (decide (c.kind_=8)||(decide (c.kind_=11)||(decide (c.kind_=5)||decide (c.kind_=6))))=x4
 generalize (decide (c.kind_=12)||decide (c.kind_=15))=x6
 generalize decide (c.kind_=2)=x2
 generalize decide (c.kind_=10)=x5
 generalize decide (c.kind_=3)=x7
 generalize decide (c.kind_=16)=x8
 cases x0<;>cases x1<;>cases x2<;>cases x3<;>cases x4<;>cases x5<;>cases x6<;>cases x7<;>cases x8<;>rfl
theorem J6b{α:Type}(p:α->Bool)(w:α->Option Bool){fin:Option Bool}{b:Bool}(a:fin=some b)(l:List α)(i:Int)(h:∀x∈l,w x=some (p x)):
 Q3p (λu _ k=>(w u).bind λr=>bif !r then some false else k) fin l i=some (l.all p&&b):=by
 rw[a,Z2m p w b l i h]
theorem X8i(N:Nat)(a:N<=1000000):∀n j:Nat,j<=N->N-j<n->iter (Z4t (N:Int)) n (List.replicate j (48:UInt8),(j:Int))=some (List.replicate N 48)
 | 0,j,_,h=>by omega
 | n+1,j,d,f=>by
   show Z4t (N:Int) (iter (Z4t (N:Int)) n) (List.replicate j (48:UInt8),(j:Int))=_
   rw[Z4t]
   by_cases g:j<N
   ·rw[G0h (by omega),Q0b,catO,if_pos (by simp;omega),G0a,Q0j (by omega) (by omega)]
    have e:List.replicate j (48:UInt8)++[48]=List.replicate (j+1) 48:=List.replicate_succ'.symm
    rw[e]
    exact X8i N a n (j+1) (by omega) (by omega)
   rw[G0b (by omega),Q0a,show j=N by omega]
theorem V3q(N:Nat)(a:N<=1000000):F186 (N:Int)=some (List.replicate N 48):=by
 rw[F186]
 exact X8i N a BIG 0 (G1t _) (by unfold BIG;omega)
theorem V3r(w:Word)(h:w.words_.length+w.cmd_.length<=1000000):F185 w=some (Z8e w):=by
 rw[F185,Z8e,sum0 h]
theorem len0(t:Str):decide ((t.length:Int)=0)=decide (t=[]):=by
 cases t with
 | nil=>rfl
 | cons a t=>rw[G0b (by simp;omega),G0b (by simp)]
theorem V0t(t:Str)(h:t≠[])(d:t.length<=1000000):∃c:UInt8,sidx t (IntKind.wrap .i64 ((t.length:Int)-1))=some (B c)/\J6d t=decide (B c=10):=by
 have e:0<t.length:=by
  cases t with
  | nil=>exact absurd rfl h
  | cons a t=>simp
 rw[Q0j (by omega) (by omega),show(t.length:Int)-1=((t.length-1:Nat):Int)by omega,Q4s (by omega)]
 refine⟨_,rfl,?_⟩
 rw[J6d,G5o,G0f (by omega),B]
 rw[show((10:Int))=(((10:UInt8).toNat:Nat):Int) from rfl,Q4v]
 exact G1e.2 (by simp)
theorem V3x(e:Word->Option Bool)(d:Redir)(l:e d.word_=some (rW d.word_))(f:d.word_.words_.length+d.word_.cmd_.length<=1000000)(g:d.word_.text_.length<=1000000):F147 e d=some (rR d):=by
 rw[F147,K3i]
 simp only[Q3t]
 cases((((((decide (d.fd_<0)||decide (64<=d.fd_))||decide (d.from_<0))||decide (64<=d.from_))||(!decide (d.kind_=5)&&!decide (d.from_=0)))||(!decide (d.kind_=4)&&d.raw_)))with
 | true=>rfl
 | false=>
   rw[Q0a,Q0a]
   cases(decide (d.kind_=1)||(decide (d.kind_=2)||decide (d.kind_=3)))with
   | true=>rw[Q0b,Q0b,l];rfl
   | false=>
     rw[Q0a,Q0a]
     cases(decide (d.kind_=5)||decide (d.kind_=6))with
     | true=>rw[Q0b,Q0b,V3r _ f];rfl
     | false=>
       rw[Q0a,Q0a]
       cases decide (d.kind_=4)with
       | false=>rfl
       | true=>
         rw[Q0b,Q0b,J8p,sum0 f,len0]
         cases(decide (d.fd_=0)&&decide (d.word_.kind_=1))with
         | false=>rfl
         | true=>
           rw[Q0f,V3q _ g,G0a,G0x]
           cases decide (d.word_.quoted_=List.replicate d.word_.text_.length 48)with
           | false=>rfl
           | true=>
             rw[G0x]
             cases decide (d.word_.words_.length+d.word_.cmd_.length=0)with
             | false=>rfl
             | true=>
               rw[G0x]
               by_cases a:d.word_.text_=[]
               ·rw[a];rfl
               rw[G0b a,G0o,Q0f]
               obtain⟨c,m,o⟩:=V0t d.word_.text_ a g
               rw[m,G0a,o]
theorem J2g(k:Int)(t q:Str)(ws:List Word)(cs:List Cmd)(hq:q.length<=1000000):Z4u (k,t,q,ws,cs)=some ((decide (k=1)&&keyB t)&&!Q2k q):=by
 rw[Z4u]
 cases decide (k=1)with
 | false=>rfl
 | true=>
   rw[Q0f,V3p,G0a,G0x]
   cases keyB t with
   | false=>rfl
   | true=>rw[Q0f,V3u _ (by omega),G0a]
theorem V3w(w:Word)(r:List Word)(hq:w.quoted_.length<=1000000)(h:w.kind_=4->∃u s,w.words_=u::s/\u.quoted_.length<=1000000):F148 w=some (Q5u (w::r)):=by
 rw[F148,Q5u]
 by_cases a:w.kind_=4
 ·obtain⟨u,s,e,d⟩:=h a
  rw[G0h a,Q0b,Q0b,e,Z2o,G0a,J2g _ _ _ _ _ d]
  rfl
 rw[G0b a,Q0a,Q0a,J2g _ _ _ _ _ hq]
 rfl
theorem V3v(d:Cmd->Option Bool)(e:Word->Option Bool)(l:List Cmd)(I:l.length<=1000000)(h:∀c∈l,c.words_.length<=1000000/\c.kids_.length<=1000000/\(∀x∈c.words_,e x=some (rW x))/\∀x∈c.kids_,d x=some (rC x)):F150 d e l=some (l.all Q5p):=by
 rw[F150,Q1e (body:=X0e l e d) l (λa _ k=>(Q0e (!(((!decide (a.kind_=18)||!decide (a.name_=[]))||decide (0<(a.redirs_.length:Int)))||decide ((a.words_.length:Int)=0))) (F146 e a.words_)).bind λf=>
  (Q0e (!((((!decide (a.kind_=18)||!decide (a.name_=[]))||decide (0<(a.redirs_.length:Int)))||decide ((a.words_.length:Int)=0))||!f)) (F30 d a.kids_)).bind λg=>
  (bif (((((!decide (a.kind_=18)||!decide (a.name_=[]))||decide (0<(a.redirs_.length:Int)))||decide ((a.words_.length:Int)=0))||!f)||!g)then some false else k)) (some true) (λ_ _=>rfl) (by omega)]
 have:∀ (r:List Cmd) (i:Int),(∀c∈r,c.words_.length<=1000000/\c.kids_.length<=1000000/\(∀x∈c.words_,e x=some (rW x))/\∀x∈c.kids_,d x=some (rC x))->
  Q3p (λ(a:Cmd) _ k=>(Q0e (!(((!decide (a.kind_=18)||!decide (a.name_=[]))||decide (0<(a.redirs_.length:Int)))||decide ((a.words_.length:Int)=0))) (F146 e a.words_)).bind λf=>
  (Q0e (!((((!decide (a.kind_=18)||!decide (a.name_=[]))||decide (0<(a.redirs_.length:Int)))||decide ((a.words_.length:Int)=0))||!f)) (F30 d a.kids_)).bind λg=>
  (bif (((((!decide (a.kind_=18)||!decide (a.name_=[]))||decide (0<(a.redirs_.length:Int)))||decide ((a.words_.length:Int)=0))||!f)||!g)then some false else k)) (some true) r i=some (r.all Q5p):=by
  intro r
  induction r with
  | nil=>intro i _;rfl
  | cons u r o=>
    intro i m
    obtain⟨p,q,t,z⟩:=m u (by simp)
    have A:=o (i+1) (λy C=>m y (by simp[C]))
    rw[Q3p,G2m,A,J2v]
    have E:decide (0<(u.redirs_.length:Int))=!decide (u.redirs_.length=0):=by
     by_cases h:u.redirs_.length=0
     ·rw[G0h h,G0b (by omega)];rfl
     rw[G0b h,G0h (by omega)];rfl
    have F:decide ((u.words_.length:Int)=0)=decide (u.words_.length=0):=G1e.2 (by omega)
    rw[E,F]
    have H:(((!decide (u.kind_=18)||!decide (u.name_=[]))||!decide (u.redirs_.length=0))||decide (u.words_.length=0))=!(((decide (u.kind_=18)&&decide (u.name_=[]))&&decide (u.redirs_.length=0))&&!decide (u.words_.length=0)):=by
     simp only[Bool.not_and,G6f]
    rw[H]
    cases(((decide (u.kind_=18)&&decide (u.name_=[]))&&decide (u.redirs_.length=0))&&!decide (u.words_.length=0))with
    | false=>rfl
    | true=>
      rw[G0m,G0o,Q0f,K0t e rW u.words_ p t,G0a,G2k,G0x]
      cases u.words_.all rW with
      | false=>rfl
      | true=>
        rw[G0m,G0o,Q0f,F30,up65 d u.kids_ 4 q z,G0a,G0a,G2k,G0x]
        cases(u.kids_.all λc=>lvl 4 c.kind_&&rC c)with
        | false=>rfl
        | true=>rfl
 exact this l 0 h
theorem X1a{k:Int}{nm:Str}{w r c:Nat}(h:Q0x k nm w r c=true)(hk:k=8\/k=11\/k=5\/k=6):c=2:=by
 rcases hk with rfl|rfl|rfl|rfl<;>simp[Q0x]at h<;>exact h.2.2
theorem X7i{w:Word}(h:rW w=true)(hk:w.kind_=4):1<w.words_.length:=by
 rw[X7j,hk]at h
 simp at h
 exact h.2.1.1.2
theorem two{α:Type}{l:List α}(h:l.length=2):∃a b,l=[a,b]:=by
 rcases l with _|⟨a,_|⟨b,_|⟨c,r⟩⟩⟩<;>simp at h
 exact⟨a,b,rfl⟩
theorem V4c(f:Cmd->Option Bool)(g:Word->Option Bool)(c:Cmd)(F:c.name_.length<=1000000)(H:c.words_.length+c.redirs_.length<=1000000)(o:c.kids_.length<=1000000)
 (I:∀x∈c.words_,g x=some (rW x)) (z:∀x∈c.words_,x.quoted_.length<=1000000/\∀y∈x.words_,y.quoted_.length<=1000000)
 (p:∀d∈c.redirs_,g d.word_=some (rW d.word_)/\d.word_.words_.length+d.word_.cmd_.length<=1000000/\d.word_.text_.length<=1000000)
 (hk:∀x∈c.kids_,f x=some (rC x))
 (J:∀k∈c.kids_,k.words_.length<=1000000/\k.kids_.length<=1000000/\(∀x∈k.words_,g x=some (rW x))/\∀x∈k.kids_,f x=some (rC x)):
 F101 f g c=some (rC c):=by
 rw[F101,V3y c F H,G0a,Q7o]
 cases hs:Q0x c.kind_ c.name_ c.words_.length c.redirs_.length c.kids_.length with
 | false=>rfl
 | true=>
   rw[Q0f,K0t g rW c.words_ (by omega) I,G0a,G0x]
   cases q:c.words_.all rW with
   | false=>rfl
   | true=>
     rw[G0m,G6s,Q0a,G0x]
     have F30_is:∀l:List Cmd,l.length<=1000000->(∀x∈l,f x=some (rC x))->F30 f l=some (l.all λc=>lvl 4 c.kind_&&rC c):=λl K h=>by rw[F30,up65 f l 4 K h];rfl
     rw[Q1e (body:=X0j c g f) c.redirs_ (λu _ k=>(F147 g u).bind λr=>bif !r then some false else k) _ (λ_ _=>rfl) (by omega)]
     refine J6b rR (F147 g) ?_ c.redirs_ 0 (λd hd=>V3x g d (p d hd).1 (p d hd).2.1 (p d hd).2.2)
     simp only[Q3t]
     cases O:decide (c.kind_=1)with
     | true=>
       rw[Q0b,Q0b]
       have t:decide ((c.words_.length:Int)=0)=decide (c.words_.length=0):=G1e.2 (by omega)
       rw[t]
       cases L:c.words_ with
       | nil=>rfl
       | cons u r=>
         rw[L]at q z
         rw[G2m,G0d]at q
         have A:=z u (by simp)
         have:decide ((u::r).length=0)=false:=G0b (by simp)
         rw[this,G0o,Q0f,Z2o,G0a,Q0f,V3w u r A.1 (λM=>by
          have:=X7i q.1 M
          cases m:u.words_ with
          | nil=>rw[m]at this;simp at this
          | cons y s=>exact⟨y,s,rfl,A.2 y (by rw[m];simp)⟩),G0a]
     | false=>
       rw[Q0a,Q0a]
       cases C:(decide (c.kind_=8)||decide (c.kind_=11))with
       | true=>
         rw[Q0b,Q0b]
         simp only[G2d,G0l]at C
         obtain⟨a,b,e⟩:=two (X1a hs (C.elim .inl λh=>.inr (.inl h)))
         rw[e]at hk |-
         rw[Z2o,G0a,F149,rIf,Q3m,G2m,G4z,G2x]
         have t:decide ((a.redirs_.length:Int)=0)=decide (a.redirs_.length=0):=G1e.2 (by omega)
         rw[t]
         cases(decide (a.kind_=12)&&decide (a.redirs_.length=0))with
         | false=>rfl
         | true=>
           rw[Q0f,hk a (by simp),G0a,G0a,G0x]
           cases rC a with
           | false=>rfl
           | true=>
             rw[Q0f,show Q3n [a,b] 1 (([a,b]:List Cmd).length:Int)=some [b] from rfl,G0a,Q0f,up65 f [b] 1 (by simp) (λx m=>hk x (by rw[G1p.1 m];simp)),G0a,G2m,G4z,G2x]
       | false=>
         rw[Q0a,Q0a]
         cases Q:(decide (c.kind_=12)||decide (c.kind_=15))with
         | true=>rw[Q0b,Q0b,F30_is _ o hk];rfl
         | false=>
           rw[Q0a,Q0a]
           cases E:(decide (c.kind_=5)||decide (c.kind_=6))with
           | true=>
             rw[Q0b,Q0b]
             simp only[G2d,G0l]at E
             obtain⟨a,b,e⟩:=two (X1a hs (E.elim (λh=>.inr (.inr (.inl h))) λh=>.inr (.inr (.inr h))))
             rw[e]at hk |-
             rw[show Q3n [a,b] 0 1=some [a] from rfl,G0a,up65 f [a] 3 (by simp) (λx m=>hk x (by rw[G1p.1 m];simp)),G0a,rAnd,Q3m,G2m,G4z,G2x,G2m,G4z,G2x]
             cases(lvl 3 a.kind_&&rC a)with
             | false=>rfl
             | true=>
               rw[Q0f,show Q3n [a,b] 1 (([a,b]:List Cmd).length:Int)=some [b] from rfl,G0a,Q0f,up65 f [b] 2 (by simp) (λx m=>hk x (by rw[G1p.1 m];simp)),G0a,G2m,G4z,G2x]
           | false=>
             rw[Q0a,Q0a]
             cases U:decide (c.kind_=14)with
             | true=>rw[Q0b,Q0b,up65 f _ 3 o hk];rfl
             | false=>
               rw[Q0a,Q0a]
               cases V:decide (c.kind_=17)with
               | true=>rw[Q0b,Q0b,V3v f g c.kids_ o J];rfl
               | false=>rw[Q0a,Q0a,up65 f _ 1 o hk];rfl
theorem V3s(d:Cmd->Option Bool)(a:Word->Option Bool)(w:Word)(g:w.text_.length<=1000000)(l:w.words_.length+w.cmd_.length<=1000000)(m:∀x∈w.words_,a x=some (rW x))(o:∀x∈w.cmd_,d x=some (rC x)):
 F184 d a w=some (rW w):=by
 rw[F184,X7j]
 simp only[Q3t,sum0 l]
 have p:decide ((w.words_.length:Int)=0)=decide (w.words_.length=0):=G1e.2 (by omega)
 have f:decide ((w.cmd_.length:Int)=0)=decide (w.cmd_.length=0):=G1e.2 (by omega)
 have q:decide ((0:Int)<(w.words_.length:Int))=decide (0<w.words_.length):=G1e.2 (by omega)
 have t:decide ((1:Int)<(w.words_.length:Int))=decide (1<w.words_.length):=G1e.2 (by omega)
 have e:=K0t a rW w.words_ (by omega) m
 rw[p,f,q]
 cases decide (w.kind_=1)with
 | true=>rw[Q0b,Q0b,V3j w g];rfl
 | false=>
   rw[Q0a,Q0a]
   cases(decide (w.kind_=2)||decide (w.kind_=3))with
   | true=>rw[Q0b,Q0b,X0b _ (by omega)];rfl
   | false=>
     rw[Q0a,Q0a]
     cases decide (w.kind_=7)with
     | true=>
       rw[Q0b,Q0b,X0b _ (by omega),G0a]
       exact Q3z λ_=>e
     | false=>
       rw[Q0a,Q0a]
       cases decide (w.kind_=5)with
       | true=>
         rw[Q0b,Q0b]
         exact Q3z λ_=>e
       | false=>
         rw[Q0a,Q0a]
         cases decide (w.kind_=6)with
         | true=>
           rw[Q0b,Q0b]
           exact Q3z λ_=>by rw[F30,up65 d w.cmd_ 4 (by omega) o];rfl
         | false=>
           rw[Q0a,Q0a]
           cases decide (w.kind_=4)with
           | false=>rfl
           | true=>
             rw[Q0b,Q0b]
             rw[Q1e (body:=J4p w a) w.words_ (λu _ k=>(some (!decide (u.kind_=4))).bind λr=>bif !r then some false else k) _ (λy i=>by
              rw[J4p]
              congr 1
              congr 1
              funext u
              rw[G0a,G6f]) (by omega)]
             refine J6b (λx=>!decide (x.kind_=4)) (λu=>some (!decide (u.kind_=4))) ?_ w.words_ 0 (λ_ _=>rfl)
             rw[f,t]
             exact Q3z λ_=>e
theorem Q5k:∀ {l:List Word} {w:Word},smWs l->w∈l->smW w
 | x::r,w,h,a=>by
   rw[smWs]at h
   rcases G1j.1 a with rfl|a
   ·exact h.1
   exact Q5k h.2 a
theorem Q1h:∀ {l:List Cmd} {w:Cmd},smCs l->w∈l->smC w
 | x::r,w,h,a=>by
   rw[smCs]at h
   rcases G1j.1 a with rfl|a
   ·exact h.1
   exact Q1h h.2 a
theorem J2r:∀ {l:List Redir} {w:Redir},smRs l->w∈l->smR w
 | x::r,w,h,a=>by
   rw[smRs]at h
   rcases G1j.1 a with rfl|a
   ·exact h.1
   exact J2r h.2 a
theorem X1c:∀n:Nat,(∀w:Word,nW w<n->nW w<=2000->smW w->K184 n w=some (rW w))/\(∀c:Cmd,nC c<n->nC c<=2000->smC c->K101 n c=some (rC c))
 | 0=>⟨λ_ h=>by omega,λ_ h=>by omega⟩
 | n+1=>by
   obtain⟨e,g⟩:=X1c n
   refine⟨λw q hb hs=>?_,λc q hb hs=>?_⟩
   ·show F184 (K101 n) (K184 n) w=_
    have t:=Q7h w
    have u:=Q2e w.words_
    have z:=Q1m w.cmd_
    rw[Q8h]at hs
    exact V3s _ _ w (by omega) (by omega) (λx a=>e x (by have:=Q1o a;omega) (by have:=Q1o a;omega) (Q5k hs.2.2.1 a)) (λx a=>g x (by have:=Q0q a;omega) (by have:=Q0q a;omega) (Q1h hs.2.2.2 a))
   show F101 (K101 n) (K184 n) c=_
   have t:=Q3y c
   have u:=Q2e c.words_
   have z:=Q1m c.kids_
   have L:=Q7u c.redirs_
   rw[Q8i]at hs
   obtain⟨M,O,m,A,o⟩:=hs
   refine V4c _ _ c (by omega) (by omega) (by omega) (λx a=>e x (by have:=Q1o a;omega) (by have:=Q1o a;omega) (Q5k m a)) (λx a=>?_) (λd hd=>?_) (λx a=>g x (by have:=Q0q a;omega) (by have:=Q0q a;omega) (Q1h o a)) (λk hk=>?_)
   ·have p:=Q5k m a
    rw[Q8h]at p
    refine⟨by omega,λy C=>?_⟩
    have E:=Q5k p.2.2.1 C
    rw[Q8h]at E
    omega
   ·have F:=Q8t hd
    have H:=Z3v d
    have I:=Q7h d.word_
    have J:=Q2e d.word_.words_
    have f:=Q1m d.word_.cmd_
    have l:=J2r A hd
    rw[X0y]at l
    have K:=l
    rw[Q8h]at K
    exact⟨e _ (by omega) (by omega) l,by omega,by omega⟩
   have F:=Q0q hk
   have H:=Q3y k
   have I:=Q2e k.words_
   have J:=Q1m k.kids_
   have f:=Q1h o hk
   rw[Q8i]at f
   exact⟨by omega,by omega,λx a=>e x (by have:=Q1o a;omega) (by have:=Q1o a;omega) (Q5k f.2.2.1 a),λx a=>g x (by have:=Q0q a;omega) (by have:=Q0q a;omega) (Q1h f.2.2.2.2 a)⟩
theorem Y4i(l:List Cmd)(hb:nCs l<=2000)(hs:smCs l):F14 l=some ((decide (szCs l<=1024)&&decide (dCs l<=32))&&l.all λc=>lvl 4 c.kind_&&rC c):=by
 have f:=Q1m l
 rw[F14,(X1b BIG).2 l (by unfold BIG;omega) (by omega),G0a]
 have d:decide ((szCs l:Int)<=1024)=decide (szCs l<=1024):=G1e.2 (by omega)
 rw[d]
 cases decide (szCs l<=1024)with
 | false=>rfl
 | true=>
   rw[Q0f,(J5g BIG).2 l (by unfold BIG;omega) (by omega),G0a,G0x]
   have e:decide ((dCs l:Int)<=32)=decide (dCs l<=32):=G1e.2 (by omega)
   rw[e]
   exact Q3z λ_=>by
    rw[F30,up65 _ l 4 (by omega) (λx a=>(X1c BIG).2 x (by have:=Q0q a;unfold BIG;omega) (by have:=Q0q a;omega) (Q1h hs a))]
    rfl
def numS(n:Nat):Str:=if n<10 then[UInt8.ofNat (48+n)]else[UInt8.ofNat (48+n / 10),UInt8.ofNat (48+n % 10)]
def brP(rest:Str):Option (Str×Str×Bool×Int):=
 (F276 rest [91]).bind λd=>(F275 d [93]).bind λe=>(Z9k e [61]).bind λ(a,f,g)=>(F277 a).bind λl=>some (a,f,g,l)
theorem br1:((List.range 64).all λn=>brP (91::(numS n++[93]))==some (numS n,[],false,(n:Int)))=true:=by kernel_rfl
theorem br2:((List.range 64).all λn=>brP (91::(numS n++[61,93]))==some (numS n,[],true,(n:Int)))=true:=by kernel_rfl
set_option maxRecDepth 100000 in
theorem br3:((List.range 64).all λn=>(List.range 64).all λm=>brP (91::(numS n++61::(numS m++[93])))==some (numS n,numS m,true,(n:Int)))=true:=by kernel_rfl
theorem Y1k:((List.range 64).all λn=>F277 (numS n)==some (n:Int))=true:=by kernel_rfl
def RD(s:Str):Prop:=∃hd tl,(hd=[60]\/hd=[62]\/hd=[62,62])/\s=hd++tl/\(tl=[]\/(∃n,n<64/\tl=91::(numS n++[93]))\/(∃n,n<64/\tl=91::(numS n++[61,93]))\/∃n m,n<64/\m<64/\tl=91::(numS n++61::(numS m++[93])))
theorem V0l:∀n,n<64->numS n≠[]/\(numS n).length<=2/\((numS n).head?=some 93)=False:=by decide
theorem K9o(n:Nat)(d:n<=1000000):Q2u [48] (n:Int)=some (List.replicate n 48):=by
 have:∀n,Lib.repeatL [48] n=List.replicate n (48:UInt8):=by
  intro n
  induction n with
  | zero=>rfl
  | succ n a=>rw[Lib.repeatL,a];rfl
 rw[Q2u,if_pos ⟨by omega,by omega,by simp only[G0i,G0z,G2l];omega⟩,G2l,this]
section
variable {S:Str}{T:List Token}{D:List Str}{b ic iw:Int}{wc:PCm}{vc:RCm}{ww:PWd}{vw:RWd}{i j n:Int}
end
structure OkR(T:List Token)(D:List Str):Prop where
 ok:OkT T
 rd:∀t∈T,t.kind_=2->(c0 t.text_=60\/c0 t.text_=62)->RD t.text_
 dl:D.length=T.length
 dt:∀d∈D,d.length<=1000000
section
variable {S:Str}{T:List Token}{D:List Str}{b ic iw:Int}{wc:PCm}{vc:RCm}{ww:PWd}{vw:RWd}{i j n:Int}
end
section
variable {S:Str}{T:List Token}{D:List Str}{b ic iw:Int}{wc:PCm}{vc:RCm}{ww:PWd}{vw:RWd}{i j n:Int}
end
section
variable {S:Str}{T:List Token}{D:List Str}{b ic iw:Int}{wc:PCm}{vc:RCm}{ww:PWd}{vw:RWd}{i j n:Int}
theorem Q4k(a:0<=j)(h:j<=4000000000000000000)(hk:(tp T j).kind_≠3):F168 S T D j=some j:=by
 show Z9t S T D (iter (Z9t S T D) 1180591620717411303423) j=_
 rw[Z9t,Q1r a (by omega),G0a,G0b hk,Q0a]
end
section
variable {S:Str}{T:List Token}{D:List Str}{b ic iw:Int}{wc:PCm}{vc:RCm}{ww:PWd}{vw:RWd}{i j n:Int}
end
section
variable {S:Str}{T:List Token}{D:List Str}{b ic iw:Int}{wc:PCm}{vc:RCm}{ww:PWd}{vw:RWd}{i j n:Int}
end
mutual
def zW:Word->Word
 | ⟨k,t,q,ws,cs⟩=>⟨k,t,q,zWs ws,zCs cs⟩
def zWs:List Word->List Word
 | []=>[]
 | w::r=>zW w::zWs r
def zC:Cmd->Cmd
 | ⟨k,_,n,ws,rs,ks⟩=>⟨k,0,n,zWs ws,zRs rs,zCs ks⟩
def zCs:List Cmd->List Cmd
 | []=>[]
 | c::r=>zC c::zCs r
def zR:Redir->Redir
 | ⟨k,f,g,w,r⟩=>⟨k,f,g,zW w,r⟩
def zRs:List Redir->List Redir
 | []=>[]
 | r::s=>zR r::zRs s
end
theorem V4e(w:Word):zW w=⟨w.kind_,w.text_,w.quoted_,zWs w.words_,zCs w.cmd_⟩:=by obtain⟨_,_,_,ws,cs⟩:=w;rw[zW]
theorem K8v(c:Cmd):zC c=⟨c.kind_,0,c.name_,zWs c.words_,zRs c.redirs_,zCs c.kids_⟩:=by obtain⟨_,_,_,ws,rs,ks⟩:=c;rw[zC]
theorem V4f(r:Redir):zR r=⟨r.kind_,r.fd_,r.from_,zW r.word_,r.raw_⟩:=by obtain⟨_,_,_,w,_⟩:=r;rw[zR]
theorem Z7e:∀l,zWs l=l.map zW
 | []=>by rw[zWs];rfl
 | x::r=>by rw[zWs,Z7e r];rfl
theorem Z7f:∀l,zCs l=l.map zC
 | []=>by rw[zCs];rfl
 | x::r=>by rw[zCs,Z7f r];rfl
theorem Z1g:∀l,zRs l=l.map zR
 | []=>by rw[zRs];rfl
 | x::r=>by rw[zRs,Z1g r];rfl
theorem X6c{a b:List Word}(h:zWs a=zWs b):a.length=b.length:=by
 rw[Z7e,Z7e]at h
 simpa using G4e List.length h
theorem X6d{a b:List Cmd}(h:zCs a=zCs b):a.length=b.length:=by
 rw[Z7f,Z7f]at h
 simpa using G4e List.length h
theorem K8u{a b:List Redir}(h:zRs a=zRs b):a.length=b.length:=by
 rw[Z1g,Z1g]at h
 simpa using G4e List.length h
theorem X8c{α β:Type}{f:α->β}{a b:List α}(h:a.map f=b.map f){i:Int}(e:0<=i)(m:i<a.length):∃x y,lidx a i=some x/\lidx b i=some y/\f x=f y/\x∈a:=by
 have o:a.length=b.length:=by simpa using G4e List.length h
 have d:i.toNat<a.length:=by omega
 have g:i.toNat<b.length:=by omega
 refine⟨a[i.toNat],b[i.toNat],?_,?_,?_,G4d d⟩
 ·rw[lidx,if_pos e,G0f d]
 ·rw[lidx,if_pos e,G0f g]
 have:=G4e (λl=>l[i.toNat]?) h
 simp only[G1i,G0f d,G0f g,G1s,G0c]at this
 exact this
theorem X7h(a:List Word->List Word->Option Bool)(d:Int->Option Bool)(u e:Cmd)(f:zRs u.redirs_=zRs e.redirs_)(l:∀x y:Word,zW x=zW y->nW x<=nRs u.redirs_->a [x] [y]=some true)(hb:u.redirs_.length<=1000000)(i:Int):
 ∀ (k m:Nat) (j:Int),0<=j->(u.redirs_.length:Int)<=j+k->k<m->j<=2000000->iter (J2i u e a d i) m j=d (IntKind.wrap .i64 (i+1))
 | k,0,_,_,_,q,_=>absurd q (G2q _)
 | k,m+1,j,t,K,L,M=>by
   show J2i u e a d i (iter (J2i u e a d i) m) j=_
   rw[J2i]
   by_cases g:j<(u.redirs_.length:Int)
   ·rw[Z1g,Z1g]at f
    obtain⟨x,y,z,A,o,C⟩:=X8c f t g
    rw[V4f,V4f]at o
    injection o with E F H I J
    have p:=Q8t C
    rw[Z3v]at p
    rw[G0h g,Q0b,z,G0a,A,G0a,E,F,H,J,l _ _ I p]
    simp only[G4x,G0m,beq_self_eq_true,G3l,G0o,Q0f,G0a,Q0a]
    rw[Q0j (by omega) (by omega)]
    cases k with
    | zero=>omega
    | succ k=>
      rw[<-Z1g,<-Z1g]at f
      exact X7h a d u e f l hb i k m (j+1) (by omega) (by omega) (by omega) (by omega)
   rw[G0b g,Q0a]
theorem X7a:∀n:Nat,(∀a b:List Word,zWs a=zWs b->nWs a<n->nWs a<=40000->K26 n a b=some true)/\(∀a b:List Cmd,zCs a=zCs b->nCs a<n->nCs a<=40000->K10 n a b=some true)
 | 0=>⟨λ_ _ _ h=>absurd h (G2q _),λ_ _ _ h=>absurd h (G2q _)⟩
 | n+1=>by
   obtain⟨iw,ic⟩:=X7a n
   refine⟨λa b d M hb=>?_,λa b d M hb=>?_⟩
   ·show F26 (K10 n) (K26 n) a b=_
    have o:=X6c d
    have O:=Q2e a
    rw[F26,o,G0h rfl]
    simp only[G0m,Q0a]
    rw[Z7e,Z7e]at d
    have loop:∀ (k m:Nat) (j:Int),0<=j->(a.length:Int)<=j+k->k<m->j<=100000->iter (Z5w a b (K26 n) (K10 n)) m j=some true:=by
     intro k
     induction k with
     | zero=>
       intro m j f t u z
       cases m with
       | zero=>omega
       | succ m=>
         show Z5w a b (K26 n) (K10 n) _ j=_
         rw[Z5w,G0b (by omega),Q0a]
     | succ k A=>
       intro m j f t u z
       cases m with
       | zero=>omega
       | succ m=>
         show Z5w a b (K26 n) (K10 n) (iter (Z5w a b (K26 n) (K10 n)) m) j=_
         rw[Z5w]
         by_cases e:j<(a.length:Int)
         ·obtain⟨x,y,C,E,g,F⟩:=X8c d f e
          rw[V4e,V4e]at g
          injection g with H L I J l
          have K:=Q1o F
          rw[Q7h]at K
          rw[G0h e,Q0b,C,G0a,E,G0a,H,L,I,iw _ _ J (by omega) (by omega),ic _ _ l (by omega) (by omega)]
          simp only[G4x,G0m,G3l,G0o,Q0f,G0a,Q0a]
          rw[Q0j (by omega) (by omega)]
          exact A m (j+1) (by omega) (by omega) (by omega) (by omega)
         rw[G0b e,Q0a]
    exact loop a.length BIG 0 (by omega) (by omega) (by unfold BIG;omega) (by omega)
   show F10 (K10 n) (K26 n) a b=_
   have o:=X6d d
   have O:=Q1m a
   rw[F10,o,G0h rfl]
   simp only[G0m,Q0a]
   rw[Z7f,Z7f]at d
   have loop:∀ (k m:Nat) (j:Int),0<=j->(a.length:Int)<=j+k->k<m->j<=100000->iter (Z5y a b (K26 n) (K10 n)) m j=some true:=by
    intro k
    induction k with
    | zero=>
      intro m j f t u z
      cases m with
      | zero=>omega
      | succ m=>
        show Z5y a b (K26 n) (K10 n) _ j=_
        rw[Z5y,G0b (by omega),Q0a]
    | succ k A=>
      intro m j f t u z
      cases m with
      | zero=>omega
      | succ m=>
        show Z5y a b (K26 n) (K10 n) (iter (Z5y a b (K26 n) (K10 n)) m) j=_
        rw[Z5y]
        by_cases e:j<(a.length:Int)
        ·obtain⟨x,y,C,E,g,F⟩:=X8c d f e
         rw[K8v,K8v]at g
         injection g with H L I J l Q
         have K:=Q0q F
         rw[Q3y]at K
         have V:=Q7u x.redirs_
         rw[G0h e,Q0b,C,G0a,E,G0a,H,I,iw _ _ J (by omega) (by omega),ic _ _ Q (by omega) (by omega),K8u l]
         simp only[G4x,G0m,G3l,G0o,Q0f,G0a,Q0a]
         rw[X7h (K26 n) _ x y l (λp q U W=>iw [p] [q] (by rw[zWs,zWs,zWs,U];rw[zWs]) (by rw[nWs,nWs];omega) (by rw[nWs,nWs];omega)) (by omega) j x.redirs_.length BIG 0 (by omega) (by omega) (by unfold BIG;omega) (by omega)]
         rw[Q0j (by omega) (by omega)]
         exact A m (j+1) (by omega) (by omega) (by omega) (by omega)
        rw[G0b e,Q0a]
   exact loop a.length BIG 0 (by omega) (by omega) (by unfold BIG;omega) (by omega)
end Go.Abs.U48
namespace Go.Abs.U48.Lx
open Go
theorem Q2j(c:UInt8):∀a:Str,c∉a->Lib.indexByte a c=-1
 | [],_=>rfl
 | x::a,h=>by
   simp only[G1j,not_or]at h
   have d:=Q2j c a h.2
   have f:¬ x=c:=λe=>h.1 e.symm
   simp[Lib.indexByte,d,f]
theorem Q2n(c:UInt8)(b:Str):∀a:Str,c∉a->Lib.indexByte (a++c::b) c=(a.length:Int)
 | [],_=>by simp[Lib.indexByte]
 | x::a,h=>by
   simp only[G1j,not_or]at h
   have d:=Q2n c b a h.2
   have f:¬ ((a.length:Int)=-1):=by omega
   have g:¬ x=c:=λe=>h.1 e.symm
   simp[Lib.indexByte,d,g,f]
theorem Z2z{c:UInt8}{a:Str}(h:c∉a):Lib.cut a [c]=(a,[],false):=by
 unfold Lib.cut
 rw[Lib.index_one,Q2j c a h]
 rfl
theorem cut_at{c:UInt8}{a:Str}(b:Str)(h:c∉a):Lib.cut (a++c::b) [c]=(a,b,true):=by
 unfold Lib.cut
 rw[Lib.index_one,Q2n c b a h,if_pos (by omega)]
 simp
theorem firstOf(c:UInt8):∀t:Str,c∉t\/∃a b,c∉a/\t=a++c::b
 | []=>.inl (by simp)
 | x::t=>by
   by_cases h:x=c
   ·exact .inr ⟨[],t,by simp,by rw[h];rfl⟩
   rcases firstOf c t with d|⟨a,b,d,h2⟩
   ·exact .inl (by simp only[G1j,not_or];exact⟨λe=>h e.symm,d⟩)
   exact .inr ⟨x::a,b,by simp only[G1j,not_or];exact⟨λe=>h e.symm,d⟩,by rw[h2];rfl⟩
theorem Q5a(pre:Str)(c:UInt8)(r:Str):sidx (pre++c::r) (pre.length:Int)=some (B c):=by
 rw[X0z]
 simp[B]
theorem sslice_end(pre:Str)(r:Str):Q0n (pre++r) (pre.length:Int) ((pre++r).length:Int)=some r:=by
 unfold Q0n
 rw[if_pos ⟨by omega,by simp only[G0g];omega,by omega⟩]
 have:(((pre++r).length:Int)).toNat-(pre.length:Int).toNat=r.length:=by simp only[G0g];omega
 rw[this,G2l]
 simp
theorem sslice_part(pre a r:Str):Q0n (pre++a++r) (pre.length:Int) ((pre++a).length:Int)=some a:=by
 unfold Q0n
 rw[if_pos ⟨by omega,by simp only[G0g];omega,by simp only[G0g];omega⟩]
 have:(((pre++a).length:Int)).toNat-(pre.length:Int).toNat=a.length:=by simp only[G0g];omega
 rw[this,G2l]
 simp
theorem Bf{c d:UInt8}{k:Int}(hk:B d=k)(h:c≠d):decide (B c=k)=false:=by
 subst hk
 exact(Q4v c d).trans (G0b h)
theorem scan15(s e:Str)(g at_:Int)(m:Int->Option (Str×Int×Int))(y:s.length<=1000000):∀ (a pre rest:Str) (n:Nat),(10:UInt8)∉a->s=pre++a++rest->(rest=[]\/∃b,rest=10::b)->a.length<n->
 iter (Z1e s g e at_ m) n (pre.length:Int)=(Q0n s g ((pre++a).length:Int)).bind λz=>
  bif decide (z=e)then(Q0n s at_ g).bind λA=>some (A,imin (((pre++a).length:Int)+1) (s.length:Int),0)
  else m (((pre++a).length:Int)+1)
 | _,_,_,0,_,_,_,h=>absurd h (G2q _)
 | [],pre,rest,n+1,l,hs,o,u=>by
   have p:s.length=pre.length+rest.length:=by rw[hs];simp
   show Z1e s _ _ _ _ _ _=_
   rw[Z1e]
   rcases o with rfl|⟨b,rfl⟩
   ·have f:decide ((pre.length:Int)<(s.length:Int))=false:=G0b (by simp at p;omega)
    rw[f]
    simp only[Q0e,Q0a,G0a,G3b,G0n]
    rw[Q0j (by omega) (by omega)]
   have f:decide ((pre.length:Int)<(s.length:Int))=true:=G0h (by simp at p;omega)
   have q:sidx s (pre.length:Int)=some (B 10):=by rw[hs,G0n];exact Q5a pre 10 b
   have t:decide (B 10=10)=true:=by decide
   rw[f,q]
   simp only[Q0e,Q0b,G0a,G0x,t,G0m,Q0a,G0n]
   rw[Q0j (by omega) (by omega)]
 | c::a,pre,rest,n+1,l,hs,o,u=>by
   simp only[G1j,not_or]at l
   have p:s.length=pre.length+(a.length+1)+rest.length:=by rw[hs];simp;omega
   have f:decide ((pre.length:Int)<(s.length:Int))=true:=G0h (by omega)
   have q:sidx s (pre.length:Int)=some (B c):=by
    rw[hs,G0e]
    exact Q5a pre c (a++rest)
   have t:decide (B c=10)=false:=Bf (d:=10) rfl λe=>l.1 e.symm
   show Z1e s _ _ _ _ _ _=_
   rw[Z1e,f,q]
   simp only[Q0e,Q0b,G0a,G0x,t,G0o]
   rw[Q0j (by omega) (by omega)]
   have x:=scan15 s e g at_ m y a (pre++[c]) rest n l.2 (by rw[hs];simp) o (by simp at u;omega)
   have C:((pre++[c]).length:Int)=(pre.length:Int)+1:=by simp
   have E:pre++[c]++a=pre++c::a:=by simp
   rw[C,E]at x
   exact x
def res(e:Str):Str->List Str->List Int->Str×Int×Int
 | d,a::L,x::E=>if a=e then(d,x,0)else res e (d++(a++[10])) L E
 | _,_,_=>([],0,3)
def Q3w(L:List Str):Str:=L.flatMap (·++[10])
theorem both{s e pre:Str}(I:s.length<=1000000):∀ (k:Nat) (t d:Str),t.length<=k->s=pre++d++t->∃ (L:List Str) (E:List Int),L.length=E.length/\L.length<=t.length/\(Q3w L).length<=t.length+1/\
 (∀n g l,t.length<n->g.length+t.length<=3000000->l.length+t.length<=3000000->iter (Q7c s) n (((pre++d).length:Int),g,l)=some (g++L,l++E))/\
 (∀n,t.length<n->iter (Q2i s e (pre.length:Int)) n ((pre++d).length:Int)=some (res e d L E)):=by
 have z:∀ (t d:Str),t=[]->s=pre++d++t->
  (∀n g l,t.length<n->iter (Q7c s) n (((pre++d).length:Int),g,l)=some (g,l))/\
  (∀n (p:Int),t.length<n->(s.length:Int)<=p->iter (Q2i s e (pre.length:Int)) n p=some ([],0,3)):=by
  intro t d q hs
  subst q
  have A:s.length=(pre++d).length:=by rw[hs];simp
  refine⟨λn g l f=>?_,λn p f hp=>?_⟩
  ·match n,f with
   | n+1,_=>
     show Q7c s _ _=_
     rw[Q7c,G0b (by omega),Q0a]
  match n,f with
  | n+1,_=>
    show Q2i s _ _ _ _=_
    rw[Q2i,G0b (by omega),Q0a]
 intro k
 induction k with
 | zero=>
   intro t d q hs
   have q:t=[]:=G1q.1 (by omega)
   have o:=z t d q hs
   subst q
   have A:s.length=(pre++d).length:=by rw[hs];simp
   exact⟨[],[],rfl,G0r _,by simp[Q3w],λn g l f _ _=>by rw[G0n,G0n];exact o.1 n g l f,λn f=>o.2 n _ f (by omega)⟩
 | succ k O=>
   intro t d q hs
   by_cases C:t=[]
   ·have o:=z t d C hs
    subst C
    have A:s.length=(pre++d).length:=by rw[hs];simp
    exact⟨[],[],rfl,G0r _,by simp[Q3w],λn g l f _ _=>by rw[G0n,G0n];exact o.1 n g l f,λn f=>o.2 n _ f (by omega)⟩
   have Q:0<t.length:=G3z.2 C
   have A:s.length=(pre++d).length+t.length:=by rw[hs];simp;omega
   have x:decide (((pre++d).length:Int)<(s.length:Int))=true:=G0h (by omega)
   have F:Q0n s ((pre++d).length:Int) (s.length:Int)=some t:=by
    rw[hs]
    exact sslice_end (pre++d) t
   have J:Q0n s (pre.length:Int) ((pre++d).length:Int)=some d:=by
    rw[hs]
    exact sslice_part pre d t
   rcases firstOf 10 t with u|⟨a,b,u,rfl⟩
   ·have ad:s=(pre++(d++t))++[]:=by rw[hs];simp
    have o:=z [] (d++t) rfl (by rw[hs];simp)
    have H:(((pre++(d++t)).length:Nat):Int)=((pre++d).length:Int)+(t.length:Int):=by simp;omega
    refine⟨[t],[((pre++d).length:Int)+(t.length:Int)],rfl,Q,by simp[Q3w],λn g l f U V=>?_,λn f=>?_⟩
    ·match n,f with
     | n+1,f=>
       show Q7c s _ _=_
       rw[Q7c,x,Q0b,F]
       simp only[G0a]
       rw[Z9k,if_pos (by omega),Z2z u]
       simp only[G0a,Q0a]
       rw[Q0j (n:=((pre++d).length:Int)+(t.length:Int)) (by omega) (by omega),appO,if_pos (by simp;omega)]
       simp only[G0a]
       rw[appO,if_pos (by simp;omega)]
       simp only[G0a]
       have:=o.1 n (g++[t]) (l++[((pre++d).length:Int)+(t.length:Int)]) (by simp;omega)
       rw[H]at this
       exact this
    match n,f with
    | n+1,f=>
      show Q2i s _ _ _ _=_
      rw[Q2i,x,Q0b,scan15 s e _ _ _ I t (pre++d) [] BIG u (by rw[hs,G0n]) (.inl rfl) (by unfold BIG;omega)]
      have y:((pre++d++t).length:Int)=(s.length:Int):=by rw[hs]
      rw[y,F]
      simp only[G0a,J]
      by_cases m:t=e
      ·rw[G0h m,Q0b,res,if_pos m]
       have:imin ((s.length:Int)+1) (s.length:Int)=((pre++d).length:Int)+(t.length:Int):=by unfold imin;split<;>omega
       rw[this]
      rw[G0b m,Q0a,res,if_neg m]
      exact o.2 n _ (by simp;omega) (by omega)
   have hb:b.length<=k:=by simp at q;omega
   have W:s=pre++(d++(a++[10]))++b:=by rw[hs];simp
   obtain⟨L,E,X,q2,Y,K,M⟩:=O b (d++(a++[10])) hb W
   have H:(((pre++(d++(a++[10]))).length:Nat):Int)=((pre++d).length:Int)+(a.length:Int)+1:=by simp;omega
   rw[H]at K M
   have af:(a++10::b).length=a.length+b.length+1:=by simp;omega
   refine⟨a::L,(((pre++d).length:Int)+(a.length:Int)+1)::E,by simp[X],by simp;omega,by simp[Q3w]at Y |-;omega,λn g l f U V=>?_,λn f=>?_⟩
   ·match n,f with
    | n+1,f=>
      show Q7c s _ _=_
      rw[Q7c,x,Q0b,F]
      simp only[G0a]
      rw[Z9k,if_pos (by omega),cut_at b u]
      simp only[G0a,Q0b]
      rw[Q0j (n:=((pre++d).length:Int)+(a.length:Int)) (by omega) (by omega),Q0j (by omega) (by omega),appO,if_pos (by simp;omega)]
      simp only[G0a]
      rw[appO,if_pos (by simp;omega)]
      simp only[G0a]
      have:=K n (g++[a]) (l++[((pre++d).length:Int)+(a.length:Int)+1]) (by omega) (by simp;omega) (by simp;omega)
      rw[this]
      simp
   match n,f with
   | n+1,f=>
     show Q2i s _ _ _ _=_
     rw[Q2i,x,Q0b,scan15 s e _ _ _ I a (pre++d) (10::b) BIG u (by rw[hs];simp) (.inr ⟨b,rfl⟩) (by unfold BIG;omega)]
     have aa:Q0n s ((pre++d).length:Int) ((pre++d++a).length:Int)=some a:=by
      have:s=(pre++d)++a++10::b:=by rw[hs];simp
      rw[this]
      exact sslice_part (pre++d) a (10::b)
     have y:((pre++d++a).length:Int)=((pre++d).length:Int)+(a.length:Int):=by simp;omega
     rw[aa]
     simp only[G0a,J]
     by_cases m:a=e
     ·rw[G0h m,Q0b,res,if_pos m,y]
      have:imin (((pre++d).length:Int)+(a.length:Int)+1) (s.length:Int)=((pre++d).length:Int)+(a.length:Int)+1:=by unfold imin;split<;>omega
      rw[this]
     rw[G0b m,Q0a,res,if_neg m,y]
     exact M n (by omega)
def G29(e:Str):Str->Int->Option Int->Option Int:=λw i n=>bif decide (e=w)then some i else n
theorem K7f(e:Str):∀ (L:List Str) (E:List Int) (d:Str) (i:Int),L.length=E.length->
 (Q3p (G29 e) (some (-1)) L i=some (-1)/\res e d L E=([],0,3)) \/
 ∃ (j:Nat) (x:Int),j<L.length/\Q3p (G29 e) (some (-1)) L i=some (i+j)/\E[j]?=some x/\res e d L E=(d++Q3w (L.take j),x,0)
 | [],_,d,i,_=>.inl ⟨rfl,by rw[res];intros;contradiction⟩
 | a::L,[],d,i,h=>by simp at h
 | a::L,x::E,d,i,h=>by
   by_cases f:a=e
   ·refine .inr ⟨0,x,by simp,?_,by simp,?_⟩
    ·rw[Q3p,G29,G0h f.symm,Q0b]
     simp
    rw[res,if_pos f]
    simp[Q3w]
   have m:=K7f e L E (d++(a++[10])) (i+1) (by simp at h;exact h)
   rw[Q3p,G29,G0b (λq=>f q.symm),Q0a,res,if_neg f]
   rcases m with⟨l,g⟩|⟨j,y,l,g,o,p⟩
   ·exact .inl ⟨l,g⟩
   refine .inr ⟨j+1,y,by simp;omega,?_,by simpa using o,?_⟩
   ·rw[g]
    congr 1
    omega
   rw[p]
   simp[Q3w]
theorem Y4b(L:List Str)(e:Str)(h:L.length<=9223372036854775807):F118 L e=Q3p (G29 e) (some (-1)) L 0:=by
 unfold F118
 exact Q1e (body:=X0h L e) L (G29 e) (some (-1)) (λa i=>rfl) h
theorem Z8h:∀ (x:Str) (L:List Str),Lib.join (x::L) [10]++[10]=Q3w (x::L)
 | x,[]=>by rw[Lib.join_one];simp[Q3w]
 | x,y::L=>by
   have a:=Z8h y L
   rw[Lib.join_cons]at a |-
   simp only[Lib.joinTail,G2i,G2o,Q3w,G4m]at a |-
   simp only[G0e]at a |-
   rw[<-a]
   try simp
theorem heres{s e:Str}{at_:Int}(hs:s.length<=1000000):∃r,F72 s at_ e=some r/\F54 s at_ e=some r:=by
 unfold F72 F54
 cases o:(decide (at_<0)||decide ((s.length:Int)<at_))with
 | true=>exact⟨_,rfl,rfl⟩
 | false=>
   simp only[G2n,G4j]at o
   obtain⟨L,E,p,q,Q,l,d⟩:=both (s:=s) (e:=e) (pre:=s.take at_.toNat) hs (s.drop at_.toNat).length (s.drop at_.toNat) [] (G0r _) (by simp)
   have t:(((s.take at_.toNat++[]).length:Nat):Int)=at_:=by simp;omega
   have u:(((s.take at_.toNat).length:Nat):Int)=at_:=by simp;omega
   have hd:(s.drop at_.toNat).length<=1000000:=by simp;omega
   rw[t]at l d
   rw[u]at d
   have z:F117 s at_=some (L,E):=by
    have:=l BIG [] [] (by unfold BIG;omega) (by simp at hd |-;omega) (by simp at hd |-;omega)
    exact this
   have A:iter (Q2i s e at_) BIG at_=some (res e [] L E):=d BIG (by unfold BIG;omega)
   simp only[Q0a]
   refine⟨res e [] L E,?_,A⟩
   rw[z]
   simp only[G0a]
   rw[Y4b L e (by omega)]
   rcases K7f e L E [] 0 p with⟨a,f⟩|⟨j,x,a,f,C,F⟩
   ·rw[a,f]
    rfl
   rw[f,F]
   simp only[G0a,Int.zero_add]
   have H:lidx E (j:Int)=some x:=by rw[Z2n];exact C
   rw[G0b (by omega),Q0a,H]
   by_cases I:0<j
   ·have J:Q3n L 0 (j:Int)=some (L.take j):=by
     unfold Q3n
     rw[if_pos ⟨by omega,by omega,by omega⟩]
     simp
    rw[G0h (by omega),Q0b,J]
    simp only[G0a]
    match L,j,I,a with
    | y::M,j+1,_,a=>
      have m:=Z8h y (M.take j)
      have K:(Q3w ((y::M).take (j+1))).length<=(Q3w (y::M)).length:=by
       have:Q3w (y::M)=Q3w ((y::M).take (j+1))++Q3w ((y::M).drop (j+1)):=by
        unfold Q3w
        rw[<-List.flatMap_append,G2t]
       rw[this,G0g]
       omega
      rw[G3w]at K |-
      have g:=G4e List.length m
      rw[G0g]at g
      have O:(y::M.take j).length<=140737488355328:=by
       simp at q |-
       simp at hd
       omega
      rw[J6z,if_pos ⟨by simp at g;omega,O⟩]
      simp only[G0a]
      rw[Z4e (by simp at g |-;omega),m]
      simp
   have:j=0:=by omega
   subst this
   simp[Q3w]
def BAD:Str:=[32,9,10,59,38,124,40,41,123,125,60,62,61,94,96,36,39,92,42,63,91]
def badc(c:UInt8):Bool:=BAD.contains c
def Y6b(c:UInt8):Bool:=([35,33,64]:Str).contains c
def V5e:Str->Bool
 | []=>false
 | c::r=>!Y6b c&&(c::r).all λx=>!badc x
theorem K6j(c:UInt8):(B c).toNat.toUInt8=c:=by
 unfold B
 rw[G2l]
 exact G4o
theorem Q6o(c:UInt8):∀l:Str,decide (0<=Lib.indexByte l c)=l.contains c
 | []=>by simp[Lib.indexByte]
 | x::l=>by
   have f:=Q6o c l
   have m:=Lib.indexByte_ge l c
   rw[G3j,<-f]
   by_cases a:x=c
   ·subst a
    simp[Lib.indexByte]
   have g:(c==x)=false:=by simp;exact λe=>a e.symm
   rw[g,G2k]
   by_cases d:Lib.indexByte l c=-1
   ·have:Lib.indexByte (x::l) c=-1:=by simp[Lib.indexByte,a,d]
    rw[this,d]
   have:Lib.indexByte (x::l) c=Lib.indexByte l c+1:=by simp[Lib.indexByte,a,d]
   rw[this,G0h (by omega),G0h (by omega)]
theorem V1b(c:UInt8)(l:Str):decide (Lib.indexByte l c<0)=!l.contains c:=by
 rw[<-Q6o c l]
 by_cases h:(0:Int)<=Lib.indexByte l c
 ·rw[G0h h,G0b (by omega)];rfl
 rw[G0b h,G0h (by omega)];rfl
def nl:Str->Bool
 | []=>false
 | d::_=>decide (d=10)
theorem B10(c:UInt8):decide (B c=10)=decide (c=10):=Q4v c 10
theorem B39(c:UInt8):decide (B c=39)=decide (c=39):=Q4v c 39
theorem B35(c:UInt8):decide (B c=35)=decide (c=35):=Q4v c 35
def dbl:Str->Str
 | []=>[]
 | c::r=>if c=39 then 39::39::dbl r else c::dbl r
def quote(s:Str):Str:=bif V5e s then s else 39::(dbl s++[39])
theorem X3x(pre:Str)(c:UInt8)(r:Str):Q0n (pre++c::r) (pre.length:Int) ((pre.length:Int)+1)=some [c]:=by
 have h:=sslice_part pre [c] r
 simpa using h
theorem Q9u{s pre t:Str}(hs:s=pre++t)(a d e:Int)(f:List Token)(g:List Str):Z6g s (pre.length:Int) a d e f g=some t:=by
 unfold Z6g
 subst hs
 rw[sslice_end]
 rfl
theorem Q6u(s p:Str)(d:s.length<=1000000):F42 s p=some (p.isPrefixOf s):=by
 unfold F42 F74
 by_cases h:p.length<=s.length
 ·have a:Q0n s 0 (p.length:Int)=some (s.take p.length):=by
   unfold Q0n
   rw[if_pos ⟨by omega,by omega,by omega⟩]
   simp
  rw[G0h (by omega),a]
  simp only[Q0e,Q0b,G0a,G0x]
  congr 1
  rw[G6d,G0l,G2y,List.prefix_iff_eq_take]
  exact⟨λe=>e.symm,λe=>e.symm⟩
 rw[G0b (by omega)]
 simp only[Q0e,Q0a,G0a,G3b]
 congr 1
 symm
 rw[G6y]
 intro e
 have:=List.IsPrefix.length_le (G2y.1 e)
 omega
def SYMI:Str:=[32,9,10,59,38,124,40,41,123,125,60,62,61,94,96,36,39]
def ord:Str->Bool
 | []=>false
 | c::r=>!SYMI.contains c&&!([92,10]:Str).isPrefixOf (c::r)
theorem K1z{s pre t:Str}(hs:s=pre++t)(o:s.length<=1000000)(a d e:Int)(f:List Token)(g:List Str):J2h s (pre.length:Int) a d e f g=some (ord t):=by
 unfold J2h
 rw[Q9u hs]
 match t,hs with
 | [],hs=>rfl
 | c::r,hs=>
   have p:s.length=pre.length+(r.length+1):=by rw[hs];simp
   have l:sidx (c::r) 0=some (B c):=Q5a [] c r
   rw[G0a,G0b (by simp),l]
   simp only[G0o,Q0e,Q0b,G0a,Q0h,K6j,G0x]
   rw[V1b]
   show((bif !SYMI.contains c then F42 (c::r) [92,10]else some default).bind λm=>some (!SYMI.contains c&&!m))=some (!SYMI.contains c&&!([92,10]:Str).isPrefixOf (c::r))
   cases SYMI.contains c with
   | true=>rfl
   | false=>
     rw[Q6u _ _ (by simp;omega)]
     rfl
theorem Z3n(c:UInt8):∀n:Nat,Lib.repeatL [c] n=List.replicate n c
 | 0=>rfl
 | n+1=>by
   rw[Lib.repeatL,Z3n c n,G3g]
   rfl
def START:Str:=[59,38,40,41,123,125,61,94,96,36,33,64]
theorem pre_ne{p c:UInt8}{q r:Str}(h:c≠p):(p::q).isPrefixOf (c::r)=false:=by
 have:(p==c)=false:=by simp;exact λe=>h e.symm
 simp[List.isPrefixOf,this]
theorem pre_cons(p c:UInt8)(q r:Str):(p::q).isPrefixOf (c::r)=(decide (c=p)&&q.isPrefixOf r):=by
 by_cases h:c=p
 ·subst h;simp[List.isPrefixOf]
 rw[pre_ne h,G0b h];rfl
theorem Z7x(p:UInt8)(q:Str):(p::q).isPrefixOf []=false:=rfl
def blankN:Str->Nat
 | []=>0
 | [c]=>if c=32\/c=9 then 1 else 0
 | c::d::r=>if c=32\/c=9 then 1+blankN (d::r)else if c=92/\d=10 then 2+blankN r else 0
theorem Q9h:∀ (k:Nat) (t:Str),t.length<=k->blankN t<=t.length
 | _,[],_=>G0r _
 | _,[c],_=>by unfold blankN;split<;>simp
 | 0,c::d::r,h=>by simp at h
 | k+1,c::d::r,h=>by
   have a:=Q9h k (d::r) (by simp at h |-;omega)
   have e:=Q9h k r (by simp at h |-;omega)
   unfold blankN
   simp only[G0i]at a |-
   split
   ·omega
   split<;>omega
theorem V6g{s:Str}(J:s.length<=1000000)(m o p:Int)(q:List Token)(u:List Str):∀ (k:Nat) (t pre:Str) (n:Nat),t.length<=k->s=pre++t->t.length<n->
 iter (Q3u s m o p q u) n (pre.length:Int)=some ((pre.length+blankN t:Nat):Int):=by
 intro k
 induction k with
 | zero=>
   intro t pre n f hs a
   have f:t=[]:=G1q.1 (by omega)
   subst f
   match n,a with
   | n+1,a=>
     show Q3u s _ _ _ _ _ _ _=_
     rw[Q3u,Q9u hs,G0a,Q6u _ _ (by simp),G0a,Q6u _ _ (by simp),Z7x,Z7x]
     simp only[G0o,Q0e,Q0b,G0a,G3l,Q0a]
     rw[Q6u _ _ (by simp),Z7x,G0a,Q0a]
     rfl
 | succ k x=>
   intro t pre n f hs a
   match t,f,hs,a with
   | [],f,hs,a=>exact x [] pre n (by simp) hs a
   | c::r,f,hs,a=>
     match n,a with
     | n+1,a=>
       have y:s.length=pre.length+(r.length+1):=by rw[hs];simp
       have z:(c::r).length<=1000000:=by simp;omega
       have C:((pre++[c]).length:Int)=(pre.length:Int)+1:=by simp
       simp only[G0i]at f a
       show Q3u s _ _ _ _ _ _ _=_
       rw[Q3u,Q9u hs,G0a,Q6u _ _ z,G0a,Q6u _ _ z,pre_cons,pre_cons]
       have E:((Q0e (!(decide (c=32)&&([]:Str).isPrefixOf r)) (some (decide (c=9)&&([]:Str).isPrefixOf r))).bind λF=>bif ((decide (c=32)&&([]:Str).isPrefixOf r)||F)then iter (Q3u s m o p q u) n (IntKind.wrap .i64 ((pre.length:Int)+1))else(F42 (c::r) [92,10]).bind λH=>bif H then iter (Q3u s m o p q u) n (IntKind.wrap .i64 ((pre.length:Int)+2))else some (pre.length:Int))=
        bif decide (c=32\/c=9)then iter (Q3u s m o p q u) n ((pre.length:Int)+1)else bif decide (c=92)&&([10]:Str).isPrefixOf r then iter (Q3u s m o p q u) n ((pre.length:Int)+2)else some (pre.length:Int):=by
        rw[Q0j (by omega) (by omega),Q0j (by omega) (by omega),Q6u _ _ z,pre_cons]
        have A:([]:Str).isPrefixOf r=true:=by cases r<;>rfl
        rw[A]
        by_cases g:c=32<;>by_cases l:c=9<;>simp[g,l,Q0e]
       refine E.trans ?_
       by_cases g:c=32\/c=9
       ·rw[G0h g,Q0b]
        have:=x r (pre++[c]) n (by omega) (by rw[hs];simp) (by omega)
        rw[C]at this
        rw[this]
        match r with
        | []=>simp[blankN,g]
        | d::r=>simp[blankN,g];omega
       rw[G0b g,Q0a]
       match r,hs,y,f,a with
       | [],hs,y,f,a=>simp[Z7x,blankN,g]
       | d::r,hs,y,f,a=>
         have A:([]:Str).isPrefixOf r=true:=by cases r<;>rfl
         rw[pre_cons,A,G2x]
         by_cases l:c=92/\d=10
         ·rw[G0h l.1,G0h l.2,G2x,Q0b]
          have I:((pre++[c,d]).length:Int)=(pre.length:Int)+2:=by simp
          have:=x r (pre++[c,d]) n (by simp at f;omega) (by rw[hs];simp) (by simp at a;omega)
          rw[I]at this
          rw[this]
          simp[blankN,g,l]
          omega
         have:(decide (c=92)&&decide (d=10))=false:=by
          rw[G6y]
          intro e
          simp at e
          exact l e
         rw[this,Q0a]
         simp only[blankN,if_neg g,if_neg l,G3m]
theorem K8t{s pre t:Str}(hs:s=pre++t)(l:s.length<=1000000)(a d e:Int)(f:List Token)(g:List Str):J9u s (pre.length:Int) a d e f g=some ((pre.length+blankN t:Nat):Int):=by
 have m:s.length=pre.length+t.length:=by rw[hs];simp
 unfold J9u
 exact V6g l a d e f g t.length t pre BIG (G0r _) hs (by unfold BIG;omega)
def qd:Str->Option (Str×Nat)
 | []=>none
 | [c]=>if c=39 then some ([],1)else none
 | c::d::r=>if c=39 then(if d=39 then(qd r).map λ(x,n)=>(39::x,n+2)else some ([],1))else(qd (d::r)).map λ(x,n)=>(c::x,n+1)
theorem X7q:∀a:Str,(39:UInt8)∉a->qd a=none
 | [],_=>rfl
 | [c],h=>by
   simp only[G1j,not_or,G2r,G6i,G7c]at h
   rw[qd,if_neg (λe=>h e.symm)]
 | c::d::r,h=>by
   have h':=h
   rw[G1j,not_or]at h
   rw[qd,if_neg (λe=>h.1 e.symm),X7q (d::r) h.2]
   rfl
theorem K6x(w:Str):∀a:Str,(39:UInt8)∉a->qd (a++39::w)=(qd (39::w)).map λ(x,n)=>(a++x,n+a.length)
 | [],_=>by
   cases h:qd (39::w)<;>simp[h]
 | [c],h=>by
   simp only[G1j,not_or,G2r,G6i,G7c]at h
   show qd (c::39::w)=_
   rw[qd,if_neg (λe=>h e.symm)]
   rfl
 | c::d::r,h=>by
   have h':=h
   rw[G1j,not_or]at h
   have f:=K6x w (d::r) h.2
   show qd (c::d::(r++39::w))=_
   rw[qd,if_neg (λe=>h.1 e.symm)]
   show((qd (d::r++39::w)).map _)=_
   rw[f]
   cases qd (39::w)with
   | none=>rfl
   | some p=>rcases p with⟨x,n⟩;rfl
theorem qd_shut{w:Str}(h:([39]:Str).isPrefixOf w=false):qd (39::w)=some ([],1):=by
 match w,h with
 | [],_=>rfl
 | d::r,h=>
   have a:([]:Str).isPrefixOf r=true:=by cases r<;>rfl
   rw[pre_cons,a,G2x]at h
   rw[qd,if_pos rfl,if_neg (G6b h)]
theorem qd_two(w:Str):qd (39::39::w)=(qd w).map λ(x,n)=>(39::x,n+2):=by
 rw[qd,if_pos rfl,if_pos rfl]
theorem X1f:∀ (k:Nat) (v x:Str) (m:Nat),v.length<=k->qd v=some (x,m)->1<=m/\m<=v.length/\x.length<=m
 | _,[],x,m,_,h=>by simp[qd]at h
 | _,[c],x,m,_,h=>by
   unfold qd at h
   split at h
   ·simp at h;obtain⟨rfl,rfl⟩:=h;simp
   simp at h
 | 0,c::d::r,x,m,hk,h=>by simp at hk
 | k+1,c::d::r,x,m,hk,h=>by
   simp only[G0i]at hk |-
   unfold qd at h
   split at h
   ·split at h
    ·cases hq:qd r with
     | none=>rw[hq]at h;simp at h
     | some p=>
       rcases p with⟨y,n⟩
       rw[hq]at h
       simp at h
       obtain⟨rfl,rfl⟩:=h
       have:=X1f k r y n (by omega) hq
       simp
       omega
    simp at h;obtain⟨rfl,rfl⟩:=h;simp
   cases hq:qd (d::r)with
   | none=>rw[hq]at h;simp at h
   | some p=>
     rcases p with⟨y,n⟩
     rw[hq]at h
     simp at h
     obtain⟨rfl,rfl⟩:=h
     have:=X1f k (d::r) y n (by simp;omega) hq
     simp only[G0i]at this |-
     omega
def X5l(s:Str)(a d e:Int)(b:Str)(p:Nat)(v:Str)(r:Option (Str×Bool×Int×Int×Int)):Prop:=
 match qd v with
 | some (x,m)=>r=some (b++x,true,((p+m:Nat):Int),d,e)
 | none=>∃i,r=some ([],false,i,a,48)
theorem V6d{s:Str}(K:s.length<=1000000)(p q f g:Int)(u:List Token)(x:List Str):∀ (k:Nat) (v pre b:Str) (n:Nat),v.length<=k->s=pre++v->v.length<n->b.length+v.length<=10000000->
 X5l s p f g b pre.length v (iter (Q2q s q f g u x p) n ((pre.length:Int),b)):=by
 intro k
 induction k with
 | zero=>
   intro v pre b n hk hs e hb
   have A:v=[]:=G1q.1 (by omega)
   subst A
   match n,e with
   | n+1,e=>
     refine⟨(pre.length:Int),?_⟩
     show Q2q s _ _ _ _ _ _ _ _=_
     rw[Q2q,Q9u hs,G0a,Q0h,G0a]
     rfl
 | succ k C=>
   intro v pre b n hk hs e hb
   match n,e with
   | n+1,e=>
     have z:(39:Int).toNat.toUInt8=39:=by decide
     rcases firstOf 39 v with l|⟨a,w,l,rfl⟩
     ·unfold X5l
      rw[X7q v l]
      refine⟨(pre.length:Int),?_⟩
      show Q2q s _ _ _ _ _ _ _ _=_
      rw[Q2q,Q9u hs,G0a,Q0h,G0a,z,Q2j 39 v l]
      rfl
     have L:s.length=pre.length+(a.length+(w.length+1)):=by rw[hs];simp
     simp only[G0g,G0i]at hk e hb
     have E:Q0n s (pre.length:Int) (IntKind.wrap .i64 ((pre.length:Int)+(a.length:Int)))=some a:=by
      rw[Q0j (by omega) (by omega),hs]
      simpa using sslice_part pre a (39::w)
     have F:(pre.length:Int)+((a.length:Int)+1)=((pre++(a++[39])).length:Int):=by simp
     have H:w.length<=1000000:=by omega
     have I:iter (Q2q s q f g u x p) (n+1) ((pre.length:Int),b)=bif !([39]:Str).isPrefixOf w then some (b++a,true,((pre++(a++[39])).length:Int),f,g)else iter (Q2q s q f g u x p) n (IntKind.wrap .i64 (((pre++(a++[39])).length:Int)+1),b++a++[39]):=by
      show Q2q s _ _ _ _ _ _ _ _=_
      rw[Q2q,Q9u hs,G0a,Q0h,G0a,z,Q2n 39 w a l,G0b (by omega),Q0a,E,G0a,Q1n,if_pos (by omega),G0a]
      dsimp only
      rw[Q0j (n:=(a.length:Int)+1) (by omega) (by omega),Q0j (n:=(pre.length:Int)+((a.length:Int)+1)) (by omega) (by omega),F,Q9u (t:=w) (by rw[hs];simp),G0a,Q6u _ _ H,G0a,Q2g,if_pos ⟨by decide,by decide,by simp;omega⟩,G0a,z]
      rfl
     rw[I]
     unfold X5l
     rw[K6x w a l]
     cases o:([39]:Str).isPrefixOf w with
     | false=>
       rw[qd_shut o]
       show _=_
       rw[G0o,Q0b]
       simp
       omega
     | true=>
       rw[G0m,Q0a]
       match w,o with
       | d::w,o=>
         have hd:d=39:=by
          rw[pre_cons,G0d,G0l]at o
          exact o.1
         subst hd
         rw[qd_two,Q0j (by simp;omega) (by simp;omega)]
         have J:((pre++(a++[39])).length:Int)+1=((pre++(a++[39,39])).length:Int):=by simp;omega
         have:=C w (pre++(a++[39,39])) (b++a++[39]) n (by simp at hk;omega) (by rw[hs];simp) (by simp at e;omega) (by simp at hb |-;omega)
         rw[J]
         unfold X5l at this
         cases hq:qd w with
         | none=>
           rw[hq]at this
           exact this
         | some y=>
           rcases y with⟨y,m⟩
           rw[hq]at this
           show _=_
           rw[this]
           simp
           omega
theorem Y3h{s pre v:Str}{c:UInt8}(hs:s=pre++c::v)(l:s.length<=1000000)(e a d:Int)(f:List Token)(g:List Str):X5l s (pre.length:Int) a d [] (pre.length+1) v (Z9w s (pre.length:Int) e a d f g):=by
 have p:s.length=pre.length+(v.length+1):=by rw[hs];simp
 unfold Z9w
 rw[Q0j (by omega) (by omega)]
 have:=V6d (s:=s) l (pre.length:Int) e a d f g v.length v (pre++[c]) [] BIG (G0r _) (by rw[hs];simp) (by unfold BIG;omega) (by simp;omega)
 have m:((pre++[c]).length:Int)=(pre.length:Int)+1:=by simp
 have o:(pre++[c]).length=pre.length+1:=by simp
 rw[m,o]at this
 exact this
def wd:Nat->Str->Except Nat (Str×Str×Nat)
 | 0,_=>.ok ([],[],0)
 | _+1,[]=>.ok ([],[],0)
 | k+1,c::r=>bif ord (c::r)then(match wd k r with
    | .error e=>.error (e+1)
    | .ok (x,q,n)=>.ok (c::x,48::q,n+1))
   else if c=39 then(match qd r with
    | none=>.error 0
    | some (x,m)=>match wd k (r.drop m)with
      | .error e=>.error (e+(m+1))
      | .ok (y,q,n)=>.ok (x++y,List.replicate x.length 49++q,n+(m+1)))
   else .ok ([],[],0)
def V2g(a d:Int)(b q:Str)(p:Nat)(w:Except Nat (Str×Str×Nat))(r:Option (Str×Str×Bool×Int×Int×Int)):Prop:=
 match w with
 | .ok (x,y,m)=>r=some (b++x,q++y,true,((p+m:Nat):Int),a,d)
 | .error e=>∃i,r=some ([],[],false,i,((p+e:Nat):Int),48)
theorem V6f{s:Str}(C:s.length<=1000000)(l:Int)(o:List Token)(p:List Str)(f g:Int):∀ (k:Nat) (t pre b q:Str) (n:Nat),t.length<=k->s=pre++t->t.length<n->b.length+t.length<=10000000->q.length+t.length<=10000000->
 V2g f g b q pre.length (wd k t) (iter (Q5g s l o p) n ((pre.length:Int),f,g,b,q)):=by
 have none:∀ (pre b q:Str) (n:Nat),s=pre++[]->0<n->iter (Q5g s l o p) n ((pre.length:Int),f,g,b,q)=some (b++[],q++[],true,((pre.length+0:Nat):Int),f,g):=by
  intro pre b q n hs d
  match n,d with
  | n+1,d=>
    show Q5g s _ _ _ _ _=_
    rw[Q5g,K1z hs C,G0a]
    show(bif false then _ else _)=_
    rw[Q0a,Q9u hs,G0a,Q6u _ _ (by simp),G0a]
    show(bif false then _ else _)=_
    rw[Q0a,Q4i,Q4i]
    simp
 intro k
 induction k with
 | zero=>
   intro t pre b q n hk hs d hb hq
   have K:t=[]:=G1q.1 (by omega)
   subst K
   exact none pre b q n hs (by omega)
 | succ k H=>
   intro t pre b q n hk hs d hb hq
   match t,hk,hs,d,hb,hq with
   | [],hk,hs,d,hb,hq=>exact none pre b q n hs (by omega)
   | c::r,hk,hs,d,hb,hq=>
     match n,d with
     | n+1,d=>
       have Y:s.length=pre.length+(r.length+1):=by rw[hs];simp
       have L:sidx s (pre.length:Int)=some (B c):=by rw[hs];exact Q5a pre c r
       have M:((pre++[c]).length:Int)=(pre.length:Int)+1:=by simp
       have I:0<=B c/\B c<=255:=by
        have:=UInt8.toNat_lt c
        unfold B
        omega
       simp only[G0i]at hk d hb hq
       rw[wd]
       show V2g f g b q pre.length _ (Q5g s l o p _ _)
       cases J:ord (c::r)with
       | true=>
         rw[Q5g,K1z hs C,J,G0a,Q0b,L,G0a,Q2g,if_pos ⟨I.1,I.2,by omega⟩,K6j,G0a,Q2g,if_pos ⟨by decide,by decide,by omega⟩,G0a,Q0j (by omega) (by omega)]
         have O:((48:Int).toNat.toUInt8)=48:=by decide
         have a:=H r (pre++[c]) (b++[c]) (q++[48]) n (by omega) (by rw[hs];simp) (by omega) (by simp;omega) (by simp;omega)
         rw[M]at a
         rw[O,Q0b]
         cases u:wd k r with
         | error e=>
           rw[u]at a
           obtain⟨i,z⟩:=a
           refine⟨i,?_⟩
           rw[z]
           simp
           omega
         | ok y=>
           rcases y with⟨x,y,m⟩
           rw[u]at a
           show _=_
           refine G9h a ?_
           simp
           omega
       | false=>
         have Q:(c::r).length<=1000000:=by simp;omega
         have U:([]:Str).isPrefixOf r=true:=by cases r<;>rfl
         rw[Q5g,K1z hs C,J,G0a,Q0a,Q0a,Q9u hs,G0a,Q6u _ _ Q,G0a,pre_cons,U,G2x]
         by_cases E:c=39
         ·subst E
          rw[G0h rfl,Q0b,if_pos rfl]
          have A:=Y3h hs C l f g o p
          unfold X5l at A
          cases F:qd r with
          | none=>
            rw[F]at A
            obtain⟨i,z⟩:=A
            refine⟨i,?_⟩
            rw[z,G0a]
            rfl
          | some y=>
            rcases y with⟨x,m⟩
            rw[F]at A
            have V:Z9w s (pre.length:Int) l f g o p=some ([]++x,true,((pre.length+1+m:Nat):Int),f,g):=A
            obtain⟨g1,g2,g3⟩:=X1f r.length r x m (G0r _) F
            rw[V,G0a]
            dsimp only
            have W:Q2u [49] (x.length:Int)=some (List.replicate x.length 49):=by
             unfold Q2u
             rw[if_pos ⟨by omega,by omega,by simp;omega⟩]
             congr 1
             rw[G2l]
             exact Z3n 49 x.length
            rw[G0t,G0m,Q0a,Q1n,if_pos (by omega),G0a]
            dsimp only
            rw[W,G0a,Q1n,if_pos (by simp;omega),G0a]
            dsimp only
            have a:=H (r.drop m) (pre++(39::r.take m)) (b++x) (q++List.replicate x.length 49) n (by simp;omega) (by rw[hs];simp) (by simp;omega) (by simp;omega) (by simp;omega)
            have X:(pre++(39::r.take m)).length=pre.length+1+m:=by simp;omega
            rw[X]at a
            cases u:wd k (r.drop m)with
            | error e=>
              rw[u]at a
              obtain⟨i,z⟩:=a
              refine⟨i,?_⟩
              rw[z]
              simp
              omega
            | ok y=>
              rcases y with⟨x',y,m'⟩
              rw[u]at a
              show _=_
              refine G9h a ?_
              simp
              omega
         rw[G0b E,Q0a,if_neg E,Q4i,Q4i]
         show _=_
         simp
theorem K8o{s pre t:Str}(hs:s=pre++t)(l:s.length<=1000000)(e a d:Int)(f:List Token)(g:List Str):V2g a d [] [] pre.length (wd t.length t) (J4k s (pre.length:Int) e a d f g):=by
 have m:s.length=pre.length+t.length:=by rw[hs];simp
 unfold J4k
 exact V6f l e f g a d t.length t pre [] [] BIG (G0r _) hs (by unfold BIG;omega) (by simp;omega) (by simp;omega)
def push(l:List Token)(u:Token):Except (Int×Int) (List Token):=if 1024<=l.length then .error (u.at_,4)else .ok (l++[u])
def ansL(a d:Int)(w:Except (Int×Int) (List Token))(r:Option (Bool×Int×Int×List Token)):Prop:=
 match w with
 | .ok l=>r=some (true,a,d,l)
 | .error (p,c)=>∃l,r=some (false,p,c,l)
theorem J2a(u:Token)(s:Str)(e f a d:Int)(l:List Token)(g:List Str):ansL a d (push l u) (Q8l u s e f a d l g):=by
 unfold Q8l push
 by_cases h:1024<=l.length
 ·rw[G0h (by omega),Q0b,if_pos h]
  exact⟨l,rfl⟩
 rw[G0b (by omega),Q0a,if_neg h,appO,if_pos (by simp;omega)]
 exact rfl
def hats(u:Token)(a:Bool):Bool:=a&&(decide (u.kind_=1)||(decide (u.kind_=2)&&match u.text_ with|[]=>false|c::_=>([36,96]:Str).contains c))
def hat(l:List Token)(u:Token)(a:Bool):Except (Int×Int) (List Token):=
 bif hats u a then(match push l ⟨2,u.at_,[94],[]⟩with
  | .error e=>.error e
  | .ok d=>push d u)
 else push l u
theorem K8n(u:Token)(q:Bool)(s:Str)(f g a d:Int)(l:List Token)(m:List Str):ansL a d (hat l u q) (F78 u q s f g a d l m):=by
 have A:∀X:Bool->Option (Bool×Int×Int×List Token),((Q0e (!(decide (u.kind_=1))&&(decide (u.kind_=2)&&!decide (u.text_=[]))) (sidx u.text_ 0)).bind λC=>
  (Q0e (!(decide (u.kind_=1))&&(decide (u.kind_=2)&&!decide (u.text_=[]))) (Q0h [36,96] C)).bind λE=>
  X (q&&(decide (u.kind_=1)||((decide (u.kind_=2)&&!decide (u.text_=[]))&&decide (0<=E)))))=X (hats u q):=by
  intro X
  unfold hats
  cases decide (u.kind_=1)with
  | true=>rfl
  | false=>
    cases decide (u.kind_=2)with
    | false=>rfl
    | true=>
      match u.text_ with
      | []=>rfl
      | c::r=>
        have F:sidx (c::r) 0=some (B c):=Q5a [] c r
        rw[G0b (p:=c::r=[]) (by simp),F]
        simp only[G0o,G0x,Q0e,Q0b,G0a,Q0h,K6j]
        rw[Q6o]
 unfold F78
 refine(A (λh=>bif h then _ else _))▸?_
 unfold hat
 cases hats u q with
 | false=>
   simp only[Q0a]
   have h:=J2a u s f g a d l m
   cases t:push l u with
   | error e=>
     rw[t]at h
     obtain⟨l',x⟩:=h
     exact⟨l',by rw[x];rfl⟩
   | ok o=>
     rw[t]at h
     have h':Q8l u s f g a d l m=some (true,a,d,o):=h
     rw[h']
     exact rfl
 | true=>
   simp only[Q0b]
   have h:=J2a ⟨2,u.at_,[94],[]⟩ s f g a d l m
   cases t:push l ⟨2,u.at_,[94],[]⟩with
   | error e=>
     rw[t]at h
     obtain⟨l',x⟩:=h
     exact⟨l',by rw[x];rfl⟩
   | ok o=>
     rw[t]at h
     have h':Q8l ⟨2,u.at_,[94],[]⟩ s f g a d l m=some (true,a,d,o):=h
     rw[h',G0a]
     dsimp only
     rw[G0m,Q0a]
     have y:=J2a u s f g a d o m
     cases z:push o u with
     | error e=>
       rw[z]at y
       obtain⟨l',x⟩:=y
       exact⟨l',by rw[x];rfl⟩
     | ok H=>
       rw[z]at y
       have I:Q8l u s f g a d o m=some (true,a,d,H):=y
       rw[I]
       exact rfl
def lastWord(l:List Token):Bool:=match l.getLast? with
 | some u=>decide (u.kind_=1)
 | none=>false
theorem Y3l(s:Str)(a d e f:Int)(l:List Token)(g:List Str)(o:l.length<=100000):F76 s a d e f l g=some (lastWord l&&decide (d=a)):=by
 unfold F76 lastWord
 by_cases h:l=[]
 ·subst h;rfl
 have p:0<l.length:=G3z.2 h
 have m:lidx l (((l.length-1:Nat):Int))=l.getLast?:=by
  rw[Z2n,G5o]
 rw[G0h (by omega),Q0j (by omega) (by omega),show(l.length:Int)-1=((l.length-1:Nat):Int)by omega,m]
 rw[List.getLast?_eq_some_getLast h]
 rfl
def nameB(c:UInt8):Bool:=(F126 (B c)).getD false
theorem Y3f(c:UInt8):F126 (B c)=some (nameB c):=rfl
def nameN:Str->Nat
 | []=>0
 | c::r=>bif nameB c then nameN r+1 else 0
theorem nameN_cons(c:UInt8)(r:Str):nameN (c::r)=bif nameB c then nameN r+1 else 0:=rfl
theorem X1s:∀t:Str,nameN t<=t.length
 | []=>G0r _
 | c::r=>by
   have:=X1s r
   unfold nameN
   cases nameB c<;>simp<;>omega
def name(p:Nat)(t:Str)(l:List Token):Except (Int×Int) (List Token):=
 if nameN t=0 then .error (p,47)else push l ⟨1,p,t.take (nameN t),List.replicate (nameN t) 48⟩
def ansN(a d:Int)(i:Nat)(w:Except (Int×Int) (List Token))(r:Option (Bool×Int×Int×Int×List Token)):Prop:=
 match w with
 | .ok l=>r=some (true,(i:Int),a,d,l)
 | .error (p,c)=>∃j l,r=some (false,j,p,c,l)
theorem V6e{s a t0:Str}(p:s=a++t0)(Y:s.length<=1000000)(q g m:Int)(l:List Token)(u:List Str):∀ (t d:Str) (n:Nat),t0=d++t->nameN t0=d.length+nameN t->t.length<n->
 ansN g m (a.length+nameN t0) (name a.length t0 l) (iter (Z9n s (a.length:Int) q g m l u) n ((a.length+d.length:Nat):Int)):=by
 have fin:∀ (t d:Str),t0=d++t->nameN t0=d.length->ansN g m (a.length+nameN t0) (name a.length t0 l)
  (bif decide (((a.length+d.length:Nat):Int)=(a.length:Int))then
    (Z4l (a.length:Int) 47 s ((a.length+d.length:Nat):Int) q g m l u).bind λ(A,C,E)=>some (A,((a.length+d.length:Nat):Int),C,E,l)
  else
   (Q0n s (a.length:Int) ((a.length+d.length:Nat):Int)).bind λx=>
   (Q2u [48] (x.length:Int)).bind λF=>
   (Q8l (Token.mk 1 (a.length:Int) x F) s ((a.length+d.length:Nat):Int) q g m l u).bind λ(H,I,J,K)=>
   some (H,((a.length+d.length:Nat):Int),I,J,K)):=by
  intro t d f hd
  unfold name
  by_cases h0:d.length=0
  ·rw[G0h (by omega),Q0b,if_pos (by omega)]
   exact⟨_,_,rfl⟩
  have y:s.length=a.length+(d.length+t.length):=by rw[p,f];simp
  have L:Q0n s (a.length:Int) ((a.length+d.length:Nat):Int)=some d:=by
   have h:=sslice_part a d t
   rw[G0e,<-f,<-p,G0g]at h
   exact h
  have M:Q2u [48] (d.length:Int)=some (List.replicate d.length 48):=by
   unfold Q2u
   rw[if_pos ⟨by omega,by omega,by simp;omega⟩]
   congr 1
   rw[G2l]
   exact Z3n 48 d.length
  have O:t0.take (nameN t0)=d:=by rw[hd,f];simp
  rw[G0b (by omega),Q0a,if_neg (by omega),L,G0a,M,G0a,O,hd]
  have h:=J2a ⟨1,(a.length:Int),d,List.replicate d.length 48⟩ s ((a.length+d.length:Nat):Int) q g m l u
  cases z:push l ⟨1,(a.length:Int),d,List.replicate d.length 48⟩with
  | error e=>
    rw[z]at h
    obtain⟨l',Q⟩:=h
    exact⟨_,l',by rw[Q];rfl⟩
  | ok U=>
    rw[z]at h
    have h':Q8l ⟨1,(a.length:Int),d,List.replicate d.length 48⟩ s ((a.length+d.length:Nat):Int) q g m l u=some (true,g,m,U):=h
    rw[h']
    exact rfl
 intro t
 induction t with
 | nil=>
   intro d n f hd o
   match n,o with
   | n+1,o=>
     have y:s.length=a.length+d.length:=by rw[p,f];simp
     show ansN g m _ _ (Z9n s _ _ _ _ _ _ _ _)
     rw[Z9n,G0b (by omega)]
     exact fin [] d f hd
 | cons c r V=>
   intro d n f hd o
   match n,o with
   | n+1,o=>
     have y:s.length=a.length+(d.length+(r.length+1)):=by rw[p,f];simp
     have W:sidx s ((a.length+d.length:Nat):Int)=some (B c):=by
      have h:=Q5a (a++d) c r
      rw[G0e,<-f,<-p,G0g]at h
      exact h
     show ansN g m _ _ (Z9n s _ _ _ _ _ _ _ _)
     rw[Z9n,G0h (by omega),W]
     simp only[Q0e,Q0b,G0a,Y3f,G0x]
     rw[nameN_cons]at hd
     cases hb:nameB c with
     | true=>
       rw[Q0b,Q0j (by omega) (by omega)]
       rw[hb,Q0b]at hd
       have h:=V (d++[c]) n (by rw[f];simp) (by rw[hd];simp;omega) (by simp at o;omega)
       have X:((a.length+(d++[c]).length:Nat):Int)=((a.length+d.length:Nat):Int)+1:=by simp;omega
       rw[X]at h
       exact h
     | false=>
       rw[Q0a]
       rw[hb,Q0a]at hd
       exact fin (c::r) d f hd
theorem Y3j{s pre t:Str}(hs:s=pre++t)(g:s.length<=1000000)(e a d:Int)(l:List Token)(f:List Str):ansN a d (pre.length+nameN t) (name pre.length t l) (F79 s (pre.length:Int) e a d l f):=by
 have m:s.length=pre.length+t.length:=by rw[hs];simp
 unfold F79
 exact V6e hs g e a d l f t [] BIG rfl (by simp) (by unfold BIG;omega)
theorem J9r(s:Str)(e:s.length<=1000000):∃b,F166 s=some b:=by
 obtain⟨n,b,h⟩:∃n b,Z3g s=some (n,b):=by
  unfold Z3g
  rw[if_pos (by omega)]
  cases Lib.atoiAll s<;>exact⟨_,_,rfl⟩
 unfold F166
 rw[h,G0a]
 dsimp only
 cases a:(!b&&decide (0<=n))&&decide (n<64)with
 | false=>exact⟨_,rfl⟩
 | true=>
   simp only[G0d,G0l]at a
   have d:Q4z n=some (Lib.decDigits n.toNat):=by
    unfold Q4z
    rw[if_pos ⟨a.1.2,by omega⟩]
   rw[d]
   exact⟨_,rfl⟩
theorem V2c(a:Str)(c:UInt8):(Lib.cut a [c]).1.length<=a.length/\(Lib.cut a [c]).2.1.length<=a.length:=by
 rcases firstOf c a with h|⟨x,y,h,rfl⟩
 ·rw[Z2z h];simp
 rw[cut_at y h];simp;omega
theorem F51_cut{a:Str}(w:Str)(d:Bool)(o:(93:UInt8)∉a)(z:a.length<=1000000):F125 (91::(a++93::w)) d=F125 (91::(a++[93])) d/\(F125 (91::(a++93::w)) d=some 0\/F125 (91::(a++93::w)) d=some ((a.length+2:Nat):Int)):=by
 have f:∀w:Str,F125 (91::(a++93::w)) d=((F166 (Lib.cut a [61]).1).bind λm=>
  (Q0e (((m&&(Lib.cut a [61]).2.2)&&d)&&!decide ((Lib.cut a [61]).2.1=[])) (F166 (Lib.cut a [61]).2.1)).bind λp=>
  (bif (!m||((Lib.cut a [61]).2.2&&(!d||(!decide ((Lib.cut a [61]).2.1=[])&&!p))))then some 0 else some ((a.length+2:Nat):Int))):=by
  intro w
  have q:(93:Int).toNat.toUInt8=93:=by decide
  have t:=Q2n 93 w (91::a) (by simp only[G1j,not_or];exact⟨by decide,o⟩)
  have hs:Q0n (91::(a++93::w)) 1 ((91::a).length:Int)=some a:=sslice_part [91] a (93::w)
  unfold F125
  rw[Q0h,G0a,q]
  rw[show(91::(a++93::w):Str)=(91::a)++93::w from rfl,t,G0b (by omega),Q0a]
  rw[show((91::a)++93::w:Str)=91::(a++93::w) from rfl,hs,G0a,Z9k,if_pos (by omega),G0a]
  rw[Q0j (by omega) (by simp;omega)]
  have e:((91::a).length:Int)+1=((a.length+2:Nat):Int):=by simp;omega
  rw[e]
 refine⟨(f w).trans (f []).symm,?_⟩
 rw[f w]
 obtain⟨A,C⟩:=V2c a 61
 obtain⟨l,u⟩:=J9r (Lib.cut a [61]).1 (by omega)
 obtain⟨x,y⟩:=J9r (Lib.cut a [61]).2.1 (by omega)
 rw[u,y,G0a]
 generalize (((l&&(Lib.cut a [61]).2.2)&&d)&&!decide ((Lib.cut a [61]).2.1=[]))=g
 cases g
 ·simp only[Q0e,Q0a,G0a]
  generalize (!l||((Lib.cut a [61]).2.2&&(!d||(!decide ((Lib.cut a [61]).2.1=[])&&!default))))=g
  cases g
  ·exact .inr rfl
  exact .inl rfl
 simp only[Q0e,Q0b,G0a]
 generalize (!l||((Lib.cut a [61]).2.2&&(!d||(!decide ((Lib.cut a [61]).2.1=[])&&!x))))=g
 cases g
 ·exact .inr rfl
 exact .inl rfl
theorem X3e{r:Str}(a:Bool)(h:(93:UInt8)∉r):F125 (91::r) a=some 0:=by
 have d:(93:Int).toNat.toUInt8=93:=by decide
 unfold F125
 rw[Q0h,G0a,d,Q2j 93 (91::r) (by simp only[G1j,not_or];exact⟨by decide,h⟩)]
 rfl
def brk(t:Str)(a:Bool):Nat:=((F125 t a).getD 0).toNat
theorem Y3g(r:Str)(d:Bool)(f:r.length<=1000000):F125 (91::r) d=some (brk (91::r) d:Int)/\brk (91::r) d<=(91::r).length:=by
 unfold brk
 rcases firstOf 93 r with h|⟨a,w,h,rfl⟩
 ·rw[X3e d h]
  exact⟨rfl,by simp⟩
 rcases(F51_cut w d h (by simp at f;omega)).2 with e|e
 ·rw[e];exact⟨rfl,by simp⟩
 rw[e]
 refine⟨rfl,?_⟩
 simp
 omega
def symB:List Str->Str->Except Nat Str
 | [],_=>.ok []
 | w::ws,t=>bif w.isPrefixOf t then(bif ([91]:Str).isPrefixOf (t.drop w.length)then
    (if brk (t.drop w.length) (!decide (w=[124]))=0 then .error w.length else .ok (t.take (w.length+brk (t.drop w.length) (!decide (w=[124])))))
    else .ok w)else symB ws t
def symA:List Str->Str->Except Nat Str
 | [],[]=>.ok []
 | [],c::r=>bif START.contains c then .ok [c]else symB [[62,62],[62],[60],[124]] (c::r)
 | w::ws,t=>bif w.isPrefixOf t then .ok w else symA ws t
def sym(t:Str):Except Nat Str:=symA [[38,38],[124,124],[36,35]] t
theorem X0q:∀ (ws:List Str) (t w:Str),symB ws t=.ok w->w <+: t
 | [],t,w,h=>by
   simp only[symB,G8v]at h
   subst h
   exact List.nil_prefix
 | v::ws,t,w,h=>by
   unfold symB at h
   cases a:v.isPrefixOf t with
   | false=>rw[a,Q0a]at h;exact X0q ws t w h
   | true=>
     rw[a,Q0b]at h
     cases hb:([91]:Str).isPrefixOf (t.drop v.length)with
     | false=>
       rw[hb,Q0a]at h
       injection h with h
       subst h
       exact G2y.1 a
     | true=>
       rw[hb,Q0b]at h
       split at h
       ·cases h
       injection h with h
       subst h
       exact List.take_prefix _ _
theorem X0s:∀ (ws:List Str) (t w:Str),symA ws t=.ok w->w <+: t
 | [],[],w,h=>by
   simp only[symA,G8v]at h
   subst h
   exact List.nil_prefix
 | [],c::r,w,h=>by
   unfold symA at h
   cases d:START.contains c with
   | true=>
     rw[d,Q0b]at h
     injection h with h
     subst h
     exact⟨r,rfl⟩
   | false=>
     rw[d,Q0a]at h
     exact X0q _ _ _ h
 | v::ws,t,w,h=>by
   unfold symA at h
   cases a:v.isPrefixOf t with
   | false=>rw[a,Q0a]at h;exact X0s ws t w h
   | true=>
     rw[a,Q0b]at h
     injection h with h
     subst h
     exact G2y.1 a
theorem X6o{t w:Str}(h:sym t=.ok w):w <+: t:=X0s _ _ _ h
def K0r(a d:Int)(p:Nat)(w:Except Nat Str)(r:Option (Str×Bool×Int×Int)):Prop:=
 match w with
 | .ok w=>r=some (w,true,a,d)
 | .error e=>∃v,r=some (v,false,((p+e:Nat):Int),47)
def G38b(t:Str)(d e f:Int)(s:Str)(m:Int)(o:List Token)(p:List Str):Str->Int->Option (Str×Bool×Int×Int)->Option (Str×Bool×Int×Int):=λa _ n=>
 (F42 t a).bind λq=>(bif !q then n else
   (Q0n t (a.length:Int) (t.length:Int)).bind λg=>
   (F42 g [91]).bind λu=>
   (bif !u then some (a,true,d,e)
   else
    (F125 g (!decide (a=[124]))).bind λl=>
    (bif decide (l=0)then
      (Z4l (IntKind.wrap .i64 (f+(a.length:Int))) 47 s f m d e o p).bind λ(x,y,z)=>some ([],x,y,z)
    else
     (Q0n t 0 (IntKind.wrap .i64 ((a.length:Int)+l))).bind λA=>some (A,true,d,e))))
def G38a(t:Str)(d e:Int):Str->Int->Option (Str×Bool×Int×Int)->Option (Str×Bool×Int×Int):=λa _ n=>
 (F42 t a).bind λf=>bif f then some (a,true,d,e)else n
theorem X8d{t s:Str}(g:t.length<=1000000)(d e l:Int)(o:List Token)(q:List Str)(p:Nat)(z:p<=1000000):∀ (ws:List Str) (i:Int),K0r d e p (symB ws t) (Q3p (G38b t d e (p:Int) s l o q) (some ([],true,d,e)) ws i)
 | [],i=>rfl
 | w::ws,i=>by
   unfold symB
   rw[Q3p,G38b,Q6u _ _ g,G0a]
   cases A:w.isPrefixOf t with
   | false=>
     rw[Q0a,G0o,Q0b]
     exact X8d g d e l o q p z ws (i+1)
   | true=>
     obtain⟨u,a⟩:=G2y.1 A
     have f:t.length=w.length+u.length:=by rw[<-a];simp
     have hs:Q0n t (w.length:Int) (t.length:Int)=some u:=by
      rw[<-a]
      exact sslice_end w u
     have hd:t.drop w.length=u:=by rw[<-a];simp
     rw[Q0b,G0m,Q0a,hs,G0a,Q6u _ _ (by omega),G0a,hd]
     cases hb:([91]:Str).isPrefixOf u with
     | false=>
       rw[Q0a,G0o,Q0b]
       exact rfl
     | true=>
       rw[Q0b,G0m,Q0a]
       match u,hb,f,a with
       | c::r,hb,f,a=>
         have C:c=91:=by
          rw[pre_cons,G0d,G0l]at hb
          exact hb.1
         subst C
         obtain⟨x,E⟩:=Y3g r (!decide (w=[124])) (by simp at f;omega)
         rw[x,G0a]
         simp only[G0i]at f E
         clear x
         generalize brk (91::r) (!decide (w=[124]))=m at *
         by_cases y:m=0
         ·rw[if_pos y,G0h (by omega),Q0b,Q0j (by omega) (by omega)]
          exact⟨[],by simp[Z4l]⟩
         rw[if_neg y,G0b (by omega),Q0a,Q0j (by omega) (by omega)]
         have F:Q0n t 0 ((w.length:Int)+(m:Int))=some (t.take (w.length+m)):=by
          unfold Q0n
          rw[if_pos ⟨by omega,by omega,by omega⟩]
          have:((w.length:Int)+(m:Int)).toNat-(0:Int).toNat=w.length+m:=by omega
          rw[this]
          rfl
         rw[F]
         exact rfl
theorem X8e{t:Str}(e:t.length<=1000000)(a d:Int)(p:Nat)(fin:Option (Str×Bool×Int×Int))(f:K0r a d p (symA [] t) fin):∀ (ws:List Str) (i:Int),K0r a d p (symA ws t) (Q3p (G38a t a d) fin ws i)
 | [],_=>f
 | w::ws,i=>by
   rw[symA,Q3p,G38a,Q6u _ _ e,G0a]
   cases g:w.isPrefixOf t with
   | false=>exact X8e e a d p fin f ws (i+1)
   | true=>exact rfl
theorem Y3k{s pre t:Str}(hs:s=pre++t)(C:s.length<=1000000)(e a d:Int)(f:List Token)(g:List Str):K0r a d pre.length (sym t) (F77 s (pre.length:Int) e a d f g):=by
 have E:s.length=pre.length+t.length:=by rw[hs];simp
 have l:t.length<=1000000:=by omega
 unfold F77
 rw[Q9u hs,G0a]
 have m:iter (J7a t a d (pre.length:Int) s e f g) BIG 0=Q3p (G38b t a d (pre.length:Int) s e f g) (some ([],true,a,d)) [[62,62],[62],[60],[124]] 0:=
  Q1e (body:=J7a t a d (pre.length:Int) s e f g) _ _ _ (λo i=>rfl) (by decide)
 have q:=Q1e (body:=K1u t a d (pre.length:Int) s e f g) [[38,38],[124,124],[36,35]] (G38a t a d) (bif decide (t=[])then some ([],true,a,d)else
  (sidx t 0).bind λu=>(Q0h [59,38,40,41,123,125,61,94,96,36,33,64] u).bind λx=>
  (bif decide (0<=x)then(Q0n t 0 1).bind λy=>some (y,true,a,d)
  else iter (J7a t a d (pre.length:Int) s e f g) BIG 0)) (λo i=>rfl) (by decide)
 rw[q,m]
 refine X8e l a d pre.length _ ?_ _ 0
 match t,l with
 | [],l=>exact rfl
 | c::r,l=>
   have z:sidx (c::r) 0=some (B c):=Q5a [] c r
   have A:Q0n (c::r) 0 1=some [c]:=X3x [] c r
   rw[symA,G0b (p:=c::r=[]) (by simp),Q0a,z,G0a,Q0h,G0a,K6j,Q6o,A]
   show K0r a d pre.length _ (bif START.contains c then _ else _)
   cases START.contains c with
   | true=>exact rfl
   | false=>exact X8d l a d e f g pre.length (by omega) _ 0
def tok(p:Nat)(t:Str)(l:List Token)(d:Bool):Except (Int×Int) (List Token×Nat):=
 match sym t with
 | .error e=>.error (((p+e:Nat):Int),47)
 | .ok []=>(match wd t.length t with
   | .error e=>.error (((p+e:Nat):Int),48)
   | .ok (x,q,m)=>match hat l ⟨1,p,x,q⟩ d with
     | .error e=>.error e
     | .ok a=>.ok (a,m))
 | .ok (c::w)=>match hat l ⟨2,p,c::w,[]⟩ d with
   | .error e=>.error e
   | .ok a=>bif decide (c::w=[36])||decide (c::w=[36,35])then(match name (p+(c::w).length) (t.drop (c::w).length) a with
      | .error e=>.error e
      | .ok f=>.ok (f,(c::w).length+nameN (t.drop (c::w).length)))
     else .ok (a,(c::w).length)
def ansT(a d:Int)(p:Nat)(w:Except (Int×Int) (List Token×Nat))(r:Option (Bool×Int×Int×Int×List Token)):Prop:=
 match w with
 | .ok (l,m)=>r=some (true,((p+m:Nat):Int),a,d,l)
 | .error (q,c)=>∃j l,r=some (false,j,q,c,l)
theorem Y4e{s pre t:Str}(hs:s=pre++t)(J:s.length<=1000000)(f a d:Int)(l:List Token)(g:List Str)(Q:l.length<=100000):
 ansT a d pre.length (tok pre.length t l (lastWord l&&decide (f=(pre.length:Int)))) (F44 s (pre.length:Int) f a d l g):=by
 have af:s.length=pre.length+t.length:=by rw[hs];simp
 unfold F44
 rw[Y3l _ _ _ _ _ _ _ Q,G0a]
 generalize (lastWord l&&decide (f=(pre.length:Int)))=tc
 have H:=Y3k hs J f a d l g
 unfold tok
 cases z:sym t with
 | error e=>
   rw[z]at H
   obtain⟨v,U⟩:=H
   rw[U,G0a]
   dsimp only
   rw[G0o,Q0b]
   exact⟨_,_,rfl⟩
 | ok w=>
   rw[z]at H
   have V:F77 s (pre.length:Int) f a d l g=some (w,true,a,d):=H
   rw[V,G0a]
   dsimp only
   rw[G0m,Q0a]
   match w,z with
   | [],z=>
     rw[G0h (p:=([]:Str)=[]) rfl,G0m,Q0a]
     have I:=K8o hs J f a d l g
     dsimp only
     cases M:wd t.length t with
     | error e=>
       rw[M]at I
       obtain⟨i,W⟩:=I
       rw[W,G0a]
       exact⟨_,_,rfl⟩
     | ok y=>
       rcases y with⟨x,q,m⟩
       rw[M]at I
       have X:J4k s (pre.length:Int) f a d l g=some ([]++x,[]++q,true,((pre.length+m:Nat):Int),a,d):=I
       rw[X,G0a]
       dsimp only
       rw[Q0b,G0t,G0t]
       have o:=K8n ⟨1,(pre.length:Int),x,q⟩ tc s ((pre.length+m:Nat):Int) f a d l g
       cases C:hat l ⟨1,(pre.length:Int),x,q⟩ tc with
       | error e=>
         rw[C]at o
         obtain⟨l',E⟩:=o
         rw[E]
         exact⟨_,_,rfl⟩
       | ok A=>
         rw[C]at o
         have K:F78 ⟨1,(pre.length:Int),x,q⟩ tc s ((pre.length+m:Nat):Int) f a d l g=some (true,a,d,A):=o
         rw[K]
         exact rfl
   | c::w,z=>
     obtain⟨u,L⟩:=X6o z
     have Y:t.drop (c::w).length=u:=by rw[<-L];simp
     have ag:t.length=(c::w).length+u.length:=by rw[<-L,G0g]
     rw[G0b (p:=c::w=[]) (by simp),G0o,Q0b,Q0j (by omega) (by omega)]
     have e1:(pre.length:Int)+((c::w).length:Int)=((pre.length+(c::w).length:Nat):Int):=by omega
     rw[e1]
     have o:=K8n ⟨2,(pre.length:Int),c::w,[]⟩ tc s ((pre.length+(c::w).length:Nat):Int) f a d l g
     dsimp only
     cases C:hat l ⟨2,(pre.length:Int),c::w,[]⟩ tc with
     | error e=>
       rw[C]at o
       obtain⟨l',E⟩:=o
       rw[E]
       exact⟨_,_,rfl⟩
     | ok A=>
       rw[C]at o
       have K:F78 ⟨2,(pre.length:Int),c::w,[]⟩ tc s ((pre.length+(c::w).length:Nat):Int) f a d l g=some (true,a,d,A):=o
       rw[K,G0a]
       dsimp only
       rw[G0m,Q0a]
       cases hd:decide (c::w=[36])||decide (c::w=[36,35])with
       | false=>exact rfl
       | true=>
         rw[Q0b,Q0b,Y]
         have F:=Y3j (s:=s) (pre:=pre++(c::w)) (t:=u) (by rw[hs,<-L];simp) J f a d A g
         have e2:(pre++(c::w)).length=pre.length+(c::w).length:=G0g
         rw[e2]at F
         cases O:name (pre.length+(c::w).length) u A with
         | error e=>
           rw[O]at F
           obtain⟨j,l',E⟩:=F
           rw[E]
           exact⟨_,_,rfl⟩
         | ok l2=>
           rw[O]at F
           have ae:F79 s ((pre.length+(c::w).length:Nat):Int) f a d A g=some (true,((pre.length+(c::w).length+nameN u:Nat):Int),a,d,l2):=F
           rw[ae]
           show _=_
           rw[G0a]
           simp only[G4h]
def here(p:Nat)(t:Str)(l:List Token)(a:List Str):Except (Int×Int) (List Token×List Str×Nat):=
 match wd (t.drop (2+blankN (t.drop 2))).length (t.drop (2+blankN (t.drop 2)))with
 | .error e=>.error (((p+(2+blankN (t.drop 2))+e:Nat):Int),48)
 | .ok (x,q,m)=>bif decide (m=0)then .error (((p+(2+blankN (t.drop 2)):Nat):Int),47)else match push l ⟨4,p,x,q⟩with
   | .error e=>.error e
   | .ok d=>.ok (d,a++[x],2+blankN (t.drop 2)+m)
def ansH(d e:Int)(p:Nat)(w:Except (Int×Int) (List Token×List Str×Nat))(r:Option (Bool×Int×Int×Int×List Token×List Str)):Prop:=
 match w with
 | .ok (l,a,m)=>r=some (true,((p+m:Nat):Int),d,e,l,a)
 | .error (q,c)=>∃b j l a,r=some (b,j,q,c,l,a)
theorem Y4f{s pre t:Str}(hs:s=pre++t)(V:2<=t.length)(z:s.length<=1000000)(g a d:Int)(l:List Token)(f:List Str)(W:f.length<=1000000):
 ansH a d pre.length (here pre.length t l f) (J9s s (pre.length:Int) g a d l f):=by
 have X:s.length=pre.length+t.length:=by rw[hs];simp
 have hb:=Q9h (t.drop 2).length (t.drop 2) (G0r _)
 have Y:(t.drop 2).length=t.length-2:=by simp
 have H:s=(pre++t.take 2)++t.drop 2:=by rw[hs,G0e,G2t]
 have I:(pre++t.take 2).length=pre.length+2:=by simp;omega
 have A:=K8t H z g a d l f
 rw[I]at A
 unfold J9s here
 rw[Q0j (by omega) (by omega),show(pre.length:Int)+2=((pre.length+2:Nat):Int)by omega,A,G0a]
 generalize blankN (t.drop 2)=b at *
 have J:s=(pre++t.take (2+b))++t.drop (2+b):=by rw[hs,G0e,G2t]
 have K:(pre++t.take (2+b)).length=pre.length+(2+b):=by simp;omega
 have o:=K8o J z g a d l f
 rw[K]at o
 rw[show pre.length+2+b=pre.length+(2+b)by omega]
 cases C:wd (t.drop (2+b)).length (t.drop (2+b))with
 | error e=>
   rw[C]at o
   obtain⟨i,L⟩:=o
   rw[L,G0a]
   exact⟨_,_,_,_,rfl⟩
 | ok y=>
   rcases y with⟨x,q,m⟩
   rw[C]at o
   have M:J4k s ((pre.length+(2+b):Nat):Int) g a d l f=some ([]++x,[]++q,true,((pre.length+(2+b)+m:Nat):Int),a,d):=o
   rw[M,G0a]
   dsimp only
   rw[G0m,Q0a,G0t,G0t]
   by_cases E:m=0
   ·subst E
    rw[G0h (p:=(((pre.length+(2+b)+0:Nat):Int)=((pre.length+(2+b):Nat):Int))) rfl,Q0b,G0h (p:=0=0) rfl,Q0b]
    exact⟨_,_,_,_,rfl⟩
   rw[G0b (p:=(((pre.length+(2+b)+m:Nat):Int)=((pre.length+(2+b):Nat):Int))) (by omega),Q0a,G0b E,Q0a,appO,if_pos (by simp;omega),G0a]
   have u:=J2a ⟨4,(pre.length:Int),x,q⟩ s ((pre.length+(2+b)+m:Nat):Int) g a d l (f++[x])
   cases F:push l ⟨4,(pre.length:Int),x,q⟩with
   | error e=>
     rw[F]at u
     obtain⟨l',O⟩:=u
     rw[O]
     exact⟨_,_,_,_,rfl⟩
   | ok Q=>
     rw[F]at u
     have U:Q8l ⟨4,(pre.length:Int),x,q⟩ s ((pre.length+(2+b)+m:Nat):Int) g a d l (f++[x])=some (true,a,d,Q):=u
     rw[U]
     show _=_
     rw[G0a]
     simp only[G4h]
def doc:Nat->Str->Str->Option Nat
 | 0,_,_=>none
 | k+1,e,u=>if u=[]then none else
   if (Lib.cut u [10]).1=e then some ((Lib.cut u [10]).1.length+bif (Lib.cut u [10]).2.2 then 1 else 0)
   else(doc k e (Lib.cut u [10]).2.1).map λn=>(Lib.cut u [10]).1.length+(bif (Lib.cut u [10]).2.2 then 1 else 0)+n
theorem J8z(k:Nat)(e:Str):doc k e []=none:=by cases k<;>rfl
theorem X9w:∀ (k:Nat) (e u:Str) (n:Nat),doc k e u=some n->n<=u.length
 | 0,e,u,n,h=>by cases h
 | k+1,e,u,n,h=>by
   unfold doc at h
   by_cases f:u=[]
   ·rw[if_pos f]at h;cases h
   rw[if_neg f]at h
   rcases firstOf 10 u with d|⟨a,b,d,rfl⟩
   ·rw[Z2z d]at h
    dsimp only at h
    rw[J8z]at h
    split at h
    ·simp at h;omega
    cases h
   rw[cut_at b d]at h
   dsimp only at h
   split at h
   ·simp at h;simp;omega
   cases hd:doc k e b with
   | none=>rw[hd]at h;cases h
   | some m=>
     rw[hd]at h
     have:=X9w k e b m hd
     simp at h
     simp
     omega
def ansD(p:Nat)(w:Option Nat)(r:Option (Str×Int×Int)):Prop:=
 match w with
 | some n=>∃x,r=some (x,((p+n:Nat):Int),0)
 | none=>r=some ([],0,3)
theorem V6h{s e pre:Str}(y:s.length<=1000000):∀ (k:Nat) (t d:Str) (n:Nat),t.length<=k->s=pre++d++t->t.length<n->
 ansD (pre++d).length (doc k e t) (iter (Q2i s e (pre.length:Int)) n ((pre++d).length:Int)):=by
 have gone:∀ (n:Nat) (p:Int),0<n->(s.length:Int)<=p->iter (Q2i s e (pre.length:Int)) n p=some ([],0,3):=by
  intro n p g K
  match n,g with
  | n+1,_=>
    show Q2i s _ _ _ _=_
    rw[Q2i,G0b (by omega),Q0a]
 intro k
 induction k with
 | zero=>
   intro t d n q hs g
   have q:t=[]:=G1q.1 (by omega)
   subst q
   exact gone n _ (by omega) (by rw[hs];simp)
 | succ k C=>
   intro t d n q hs g
   by_cases u:t=[]
   ·subst u
    rw[J8z]
    exact gone n _ (by omega) (by rw[hs];simp)
   have L:0<t.length:=G3z.2 u
   have M:s.length=(pre++d).length+t.length:=by rw[hs];simp;omega
   have z:decide (((pre++d).length:Int)<(s.length:Int))=true:=G0h (by omega)
   have A:Q0n s (pre.length:Int) ((pre++d).length:Int)=some d:=by
    rw[hs]
    exact sslice_part pre d t
   rw[doc,if_neg u]
   match n,g with
   | n+1,g=>
     show ansD _ _ (Q2i s _ _ _ _)
     rcases firstOf 10 t with l|⟨a,b,l,rfl⟩
     ·have E:Q0n s ((pre++d).length:Int) (s.length:Int)=some t:=by
       rw[hs]
       exact sslice_end (pre++d) t
      rw[Q2i,z,Q0b,scan15 s e _ _ _ y t (pre++d) [] BIG l (by rw[hs,G0n]) (.inl rfl) (by unfold BIG;omega)]
      have o:((pre++d++t).length:Int)=(s.length:Int):=by rw[hs]
      rw[o,E,G0a,A,Z2z l]
      dsimp only
      by_cases f:t=e
      ·rw[G0h f,Q0b,if_pos f,Q0a]
       refine⟨d,?_⟩
       have:imin ((s.length:Int)+1) (s.length:Int)=(((pre++d).length+(t.length+0):Nat):Int):=by unfold imin;split<;>omega
       rw[G0a,this]
      rw[G0b f,Q0a,if_neg f,J8z]
      exact gone n _ (by omega) (by omega)
     have F:s=pre++(d++(a++[10]))++b:=by rw[hs];simp
     have O:(a++10::b).length=a.length+b.length+1:=by simp;omega
     rw[Q2i,z,Q0b,scan15 s e _ _ _ y a (pre++d) (10::b) BIG l (by rw[hs];simp) (.inr ⟨b,rfl⟩) (by unfold BIG;omega)]
     have H:Q0n s ((pre++d).length:Int) ((pre++d++a).length:Int)=some a:=by
      have:s=(pre++d)++a++10::b:=by rw[hs];simp
      rw[this]
      exact sslice_part (pre++d) a (10::b)
     have o:((pre++d++a).length:Int)=((pre++d).length:Int)+(a.length:Int):=by simp;omega
     rw[H,G0a,A,cut_at b l]
     dsimp only
     by_cases f:a=e
     ·rw[G0h f,Q0b,if_pos f,Q0b,o]
      refine⟨d,?_⟩
      have:imin (((pre++d).length:Int)+(a.length:Int)+1) (s.length:Int)=(((pre++d).length+(a.length+1):Nat):Int):=by unfold imin;split<;>omega
      rw[G0a,this]
     rw[G0b f,Q0a,if_neg f,Q0b,o]
     have h:=C b (d++(a++[10])) n (by omega) F (by omega)
     have I:(pre++(d++(a++[10]))).length=(pre++d).length+(a.length+1):=by simp;omega
     rw[I,show(((pre++d).length+(a.length+1):Nat):Int)=((pre++d).length:Int)+(a.length:Int)+1 by omega]at h
     cases hd:doc k e b with
     | none=>rw[hd]at h;exact h
     | some m=>
       rw[hd]at h
       obtain⟨x,J⟩:=h
       refine⟨x,?_⟩
       rw[J]
       simp only[G4h]
theorem Y9o{s pre t:Str}(hs:s=pre++t)(a:s.length<=1000000)(e:Str):ansD pre.length (doc t.length e t) (F72 s (pre.length:Int) e):=by
 have l:s.length=pre.length+t.length:=by rw[hs];simp
 obtain⟨r,d,f⟩:=heres (s:=s) (e:=e) (at_:=(pre.length:Int)) a
 rw[d,<-f]
 unfold F54
 have g:(decide ((pre.length:Int)<0)||decide ((s.length:Int)<(pre.length:Int)))=false:=by
  rw[G0b (by omega),G0b (by omega)]
  rfl
 rw[g,Q0a]
 have h:=V6h (s:=s) (e:=e) (pre:=pre) a t.length t [] BIG (G0r _) (by rw[hs,G0n]) (by unfold BIG;omega)
 rw[G0n]at h
 exact h
def docs:List Str->Str->Except (Nat×Int) Nat
 | [],_=>.ok 0
 | w::ws,u=>match doc u.length w u with
   | none=>.error (0,3)
   | some n=>match docs ws (u.drop n)with
     | .error (o,c)=>.error (n+o,c)
     | .ok m=>.ok (n+m)
theorem X9u:∀ (ws:List Str) (u:Str) (m:Nat),docs ws u=.ok m->m<=u.length
 | [],u,m,h=>by simp only[docs,G8v]at h;omega
 | w::ws,u,m,h=>by
   unfold docs at h
   cases hd:doc u.length w u with
   | none=>rw[hd]at h;cases h
   | some n=>
     rw[hd]at h
     have f:=X9w _ _ _ _ hd
     dsimp only at h
     cases a:docs ws (u.drop n)with
     | error e=>rcases e with⟨o,c⟩;rw[a]at h;cases h
     | ok k=>
       rw[a]at h
       have d:=X9u ws (u.drop n) k a
       simp at d
       injection h with h
       omega
def Y8q(a d:Int)(l:List Token)(p:Nat)(w:Except (Nat×Int) Nat)(r:Option (Bool×Bool×Int×Int×Int×List Token)):Prop:=
 match w with
 | .ok m=>r=some (true,true,((p+m:Nat):Int),a,d,l)
 | .error (o,c)=>∃b j,r=some (false,b,j,((p+o:Nat):Int),c,l)
def G22(s:Str)(f g l:Int)(d:List Token)(m:List Str):Str->Int->(Int->Option (Bool×Bool×Int×Int×Int×List Token))->Int->Option (Bool×Bool×Int×Int×Int×List Token):=λo _ n a=>
 (F72 s a o).bind λ(x,p,e)=>
   (bif !decide (e=0)then
     (Z4l a e s a f g l d m).bind λ(q,t,u)=>some (false,q,a,t,u,d)
   else n p)
theorem K7h{s:Str}(l:s.length<=1000000)(q a d:Int)(f:List Token)(t:List Str):∀ (ws:List Str) (i:Int) (pre u:Str),s=pre++u->
 Y8q a d f pre.length (docs ws u) (Q3o (G22 s q a d f t) (λz=>some (true,true,z,a,d,f)) ws i (pre.length:Int))
 | [],i,pre,u,hs=>rfl
 | w::ws,i,pre,u,hs=>by
   unfold docs
   rw[Q3o,G22]
   have g:=Y9o hs l w
   cases hd:doc u.length w u with
   | none=>
     rw[hd]at g
     have A:F72 s (pre.length:Int) w=some ([],0,3):=g
     rw[A]
     exact⟨_,_,rfl⟩
   | some n=>
     rw[hd]at g
     obtain⟨x,C⟩:=g
     have H:=X9w _ _ _ _ hd
     rw[C,G0a]
     dsimp only
     rw[G0h (p:=(0:Int)=0) rfl,G0m,Q0a]
     have h:=K7h l q a d f t ws (i+1) (pre++u.take n) (u.drop n) (by rw[hs,G0e,G2t])
     have E:(pre++u.take n).length=pre.length+n:=by simp;omega
     rw[E]at h
     cases y:docs ws (u.drop n)with
     | error e=>
       rcases e with⟨o,c⟩
       rw[y]at h
       obtain⟨b,j,F⟩:=h
       refine⟨b,j,?_⟩
       rw[F]
       simp only[G4h]
     | ok m=>
       rw[y]at h
       show _=_
       refine G9h h ?_
       simp only[G4h]
def nls(p:Nat)(t:Str)(l:List Token)(a:List Str):Except (Int×Int) (List Token×Nat):=
 match push l ⟨3,p,[10],[]⟩with
 | .error e=>.error e
 | .ok d=>match docs a (t.drop 1)with
   | .error (o,c)=>.error (((p+1+o:Nat):Int),c)
   | .ok m=>.ok (d,1+m)
def ansE(a d:Int)(p:Nat)(w:Except (Int×Int) (List Token×Nat))(r:Option (Bool×Bool×Int×Int×Int×List Token)):Prop:=
 match w with
 | .ok (l,m)=>r=some (true,true,((p+m:Nat):Int),a,d,l)
 | .error (q,c)=>∃b j l,r=some (false,b,j,q,c,l)
theorem Y4j{s pre t:Str}(hs:s=pre++t)(J:1<=t.length)(z:s.length<=1000000)(g d f:Int)(l:List Token)(a:List Str)(K:a.length<=1000000):
 ansE d f pre.length (nls pre.length t l a) (J9t s (pre.length:Int) g d f l a):=by
 have L:s.length=pre.length+t.length:=by rw[hs];simp
 unfold J9t nls
 have q:=J2a ⟨3,(pre.length:Int),[10],[]⟩ s (pre.length:Int) g d f l a
 cases u:push l ⟨3,(pre.length:Int),[10],[]⟩with
 | error e=>
   rw[u]at q
   obtain⟨l',A⟩:=q
   rw[A]
   exact⟨_,_,_,rfl⟩
 | ok p=>
   rw[u]at q
   have C:Q8l ⟨3,(pre.length:Int),[10],[]⟩ s (pre.length:Int) g d f l a=some (true,d,f,p):=q
   rw[C,G0a]
   dsimp only
   rw[G0m,Q0a,Q0j (by omega) (by omega)]
   have E:=Z1k (body:=J4l a s g d f p) a (G22 s g d f p a) (λF=>some (true,true,F,d,f,p)) (λM i x=>rfl) (by omega) ((pre.length:Int)+1)
   rw[E]
   have h:=K7h z g d f p a a 0 (pre++t.take 1) (t.drop 1) (by rw[hs,G0e,G2t])
   have H:(pre++t.take 1).length=pre.length+1:=by simp;omega
   rw[H,show((pre.length+1:Nat):Int)=(pre.length:Int)+1 by omega]at h
   cases y:docs a (t.drop 1)with
   | error e=>
     rcases e with⟨o,c⟩
     rw[y]at h
     obtain⟨b,j,I⟩:=h
     exact⟨b,j,_,I⟩
   | ok m=>
     rw[y]at h
     show _=_
     refine G9h h ?_
     simp only[G4h]
theorem Z7v{l l':List Token}{u:Token}(h:push l u=.ok l'):l'=l++[u]/\l'.length<=1024:=by
 unfold push at h
 split at h
 ·cases h
 injection h with h
 subst h
 exact⟨rfl,by simp;omega⟩
theorem Z0d{l:List Token}{u:Token}{q c:Int}(h:push l u=.error (q,c)):c=4:=by
 unfold push at h
 split at h
 ·injection h with h
  injection h with d a
  exact a.symm
 cases h
theorem K7l{l l':List Token}{u:Token}{a:Bool}(h:hat l u a=.ok l'):l'.length<=1024:=by
 unfold hat at h
 cases d:hats u a with
 | false=>rw[d,Q0a]at h;exact(Z7v h).2
 | true=>
   rw[d,Q0b]at h
   cases f:push l ⟨2,u.at_,[94],[]⟩with
   | error e=>rw[f]at h;cases h
   | ok g=>rw[f]at h;exact(Z7v h).2
theorem X8z{l:List Token}{u:Token}{d:Bool}{q c:Int}(h:hat l u d=.error (q,c)):c=4:=by
 unfold hat at h
 cases f:hats u d with
 | false=>rw[f,Q0a]at h;exact Z0d h
 | true=>
   rw[f,Q0b]at h
   cases a:push l ⟨2,u.at_,[94],[]⟩with
   | error e=>rw[a]at h;injection h with h;subst h;exact Z0d a
   | ok g=>rw[a]at h;exact Z0d h
theorem V0o{p:Nat}{t:Str}{l l':List Token}(h:name p t l=.ok l'):l'.length<=1024:=by
 unfold name at h
 split at h
 ·cases h
 exact(Z7v h).2
theorem K3v{p:Nat}{t:Str}{l:List Token}{q c:Int}(h:name p t l=.error (q,c)):c≠0:=by
 unfold name at h
 split at h
 ·injection h with h
  injection h with d a
  subst a
  decide
 rw[Z0d h]
 decide
theorem X2k:∀ (ws:List Str) (u:Str) (o:Nat) (c:Int),docs ws u=.error (o,c)->c=3
 | [],u,o,c,h=>by cases h
 | w::ws,u,o,c,h=>by
   unfold docs at h
   cases hd:doc u.length w u with
   | none=>
     rw[hd]at h
     injection h with h
     injection h with f a
     exact a.symm
   | some n=>
     rw[hd]at h
     dsimp only at h
     cases d:docs ws (u.drop n)with
     | error e=>
       rcases e with⟨o',c'⟩
       rw[d]at h
       have:=X2k ws (u.drop n) o' c' d
       injection h with h
       injection h with f a
       rw[<-a]
       exact this
     | ok k=>rw[d]at h;cases h
theorem K7c{p:Nat}{t:Str}{l l':List Token}{d:List Str}{m:Nat}(q:1<=t.length)(h:nls p t l d=.ok (l',m)):l'.length<=1024/\1<=m/\m<=t.length:=by
 unfold nls at h
 cases a:push l ⟨3,p,[10],[]⟩with
 | error e=>rw[a]at h;cases h
 | ok u=>
   rw[a]at h
   dsimp only at h
   cases hd:docs d (t.drop 1)with
   | error e=>rcases e with⟨o,c⟩;rw[hd]at h;cases h
   | ok k=>
     rw[hd]at h
     injection h with h
     injection h with f x
     subst f
     have g:=X9u _ _ _ hd
     simp at g
     exact⟨(Z7v a).2,by omega,by omega⟩
theorem X8a{p:Nat}{t:Str}{l:List Token}{f:List Str}{q c:Int}(h:nls p t l f=.error (q,c)):c≠0:=by
 unfold nls at h
 cases a:push l ⟨3,p,[10],[]⟩with
 | error e=>
   rcases e with⟨m,c'⟩
   rw[a]at h
   injection h with h
   injection h with g d
   rw[<-d,Z0d a]
   decide
 | ok u=>
   rw[a]at h
   dsimp only at h
   cases hd:docs f (t.drop 1)with
   | error e=>
     rcases e with⟨o,c'⟩
     rw[hd]at h
     injection h with h
     injection h with g d
     rw[<-d,X2k _ _ _ _ hd]
     decide
   | ok k=>rw[hd]at h;cases h
theorem X0m:∀ (k:Nat) (t x q:Str) (m:Nat),wd k t=.ok (x,q,m)->m<=t.length/\x.length=q.length/\x.length<=m
 | 0,t,x,q,m,h=>by
   unfold wd at h
   injection h with h
   injection h with d a
   injection a with a f
   subst d;subst a;subst f
   simp
 | k+1,[],x,q,m,h=>by
   unfold wd at h
   injection h with h
   injection h with d a
   injection a with a f
   subst d;subst a;subst f
   simp
 | k+1,c::r,x,q,m,h=>by
   rw[wd]at h
   cases C:ord (c::r)with
   | true=>
     rw[C,Q0b]at h
     cases l:wd k r with
     | error e=>rw[l]at h;cases h
     | ok y=>
       rcases y with⟨o,p,u⟩
       rw[l]at h
       have:=X0m k r o p u l
       injection h with h
       injection h with d a
       injection a with a f
       subst d;subst a;subst f
       simp
       omega
   | false=>
     rw[C,Q0a]at h
     split at h
     ·cases A:qd r with
      | none=>rw[A]at h;cases h
      | some y=>
        rcases y with⟨y,n⟩
        rw[A]at h
        have g:=X1f r.length r y n (G0r _) A
        dsimp only at h
        cases l:wd k (r.drop n)with
        | error e=>rw[l]at h;cases h
        | ok z=>
          rcases z with⟨o,p,u⟩
          rw[l]at h
          have:=X0m k (r.drop n) o p u l
          injection h with h
          injection h with d a
          injection a with a f
          subst d;subst a;subst f
          simp at this |-
          omega
     injection h with h
     injection h with d a
     injection a with a f
     subst d;subst a;subst f
     simp
theorem X8v{p:Nat}{t:Str}{l l':List Token}{o u:List Str}{m:Nat}(E:2<=t.length)(h:here p t l o=.ok (l',u,m)):l'.length<=1024/\l'.length=l.length+1/\1<=m/\m<=t.length/\u.length=o.length+1:=by
 have hb:=Q9h (t.drop 2).length (t.drop 2) (G0r _)
 unfold here at h
 generalize blankN (t.drop 2)=b at *
 cases a:wd (t.drop (2+b)).length (t.drop (2+b))with
 | error e=>rw[a]at h;cases h
 | ok y=>
   rcases y with⟨x,q,n⟩
   rw[a]at h
   have g:=X0m _ _ _ _ _ a
   dsimp only at h
   by_cases z:n=0
   ·rw[G0h z,Q0b]at h;cases h
   rw[G0b z,Q0a]at h
   cases d:push l ⟨4,p,x,q⟩with
   | error e=>rw[d]at h;cases h
   | ok F=>
     rw[d]at h
     injection h with h
     injection h with A f
     injection f with f C
     subst A;subst f;subst C
     obtain⟨rfl,k2⟩:=Z7v d
     simp at g hb k2 |-
     omega
theorem X2c{p:Nat}{t:Str}{l:List Token}{o:List Str}{q c:Int}(h:here p t l o=.error (q,c)):c≠0:=by
 unfold here at h
 cases f:wd (t.drop (2+blankN (t.drop 2))).length (t.drop (2+blankN (t.drop 2)))with
 | error e=>
   rw[f]at h
   injection h with h
   injection h with g a
   rw[<-a]
   decide
 | ok y=>
   rcases y with⟨x,u,n⟩
   rw[f]at h
   dsimp only at h
   by_cases m:n=0
   ·rw[G0h m,Q0b]at h
    injection h with h
    injection h with g a
    rw[<-a]
    decide
   rw[G0b m,Q0a]at h
   cases d:push l ⟨4,p,x,u⟩with
   | error e=>
     rcases e with⟨z,c2⟩
     rw[d]at h
     injection h with h
     injection h with g a
     rw[<-a,Z0d d]
     decide
   | ok A=>rw[d]at h;cases h
theorem V4r:∀c:UInt8,START.contains c=false->c≠124->c≠62->c≠60->c≠32->c≠9->c≠10->c≠39->SYMI.contains c=false:=by
 intro c
 have:∀k:Fin 256,(START.contains (UInt8.ofNat k.val)||([124,62,60,32,9,10,39]:Str).contains (UInt8.ofNat k.val)||!SYMI.contains (UInt8.ofNat k.val))=true:=by decide +kernel
 have h:=this ⟨c.toNat,UInt8.toNat_lt c⟩
 rw[G4o]at h
 intro a d f g l m o p
 have q:([124,62,60,32,9,10,39]:Str).contains c=false:=by
  rw[G6y]
  intro e
  simp at e
  rcases e with e|e|e|e|e|e|e
  ·exact d e
  ·exact f e
  ·exact g e
  ·exact l e
  ·exact m e
  ·exact o e
  exact p e
 rw[a,q]at h
 simpa using h
theorem X0r:∀ (ws:List Str) (t:Str),(∀w∈ws,w≠[])->symB ws t=.ok []->∀w∈ws,w.isPrefixOf t=false
 | [],t,_,_=>by simp
 | v::ws,t,e,h=>by
   rw[symB]at h
   cases d:v.isPrefixOf t with
   | false=>
     rw[d,Q0a]at h
     have:=X0r ws t (λw a=>e w (G1l _ a)) h
     intro w a
     rcases G1j.1 a with rfl|a
     ·exact d
     exact this w a
   | true=>
     exfalso
     have f:=e v (G1g ..)
     rw[d,Q0b]at h
     cases hb:([91]:Str).isPrefixOf (t.drop v.length)with
     | false=>rw[hb,Q0a]at h;injection h with h;exact f h
     | true=>
       rw[hb,Q0b]at h
       split at h
       ·cases h
       injection h with h
       have g:=(G2y.1 d).length_le
       have:=G4e List.length h
       have l:0<v.length:=G3z.2 f
       rw[G1v]at this
       simp only[G0z]at this
       omega
theorem X0t:∀ (ws:List Str) (c:UInt8) (r:Str),(∀w∈ws,w≠[])->symA ws (c::r)=.ok []->START.contains c=false/\symB [[62,62],[62],[60],[124]] (c::r)=.ok []
 | [],c,r,_,h=>by
   rw[symA]at h
   cases a:START.contains c with
   | true=>rw[a,Q0b]at h;injection h with h;cases h
   | false=>rw[a,Q0a]at h;exact⟨rfl,h⟩
 | w::ws,c,r,d,h=>by
   rw[symA]at h
   cases e:w.isPrefixOf (c::r)with
   | false=>rw[e,Q0a]at h;exact X0t ws c r (λw f=>d w (G1l _ f)) h
   | true=>
     rw[e,Q0b]at h
     injection h with h
     exact absurd h (d w (G1g ..))
theorem K2t{c:UInt8}{r x q:Str}{k m:Nat}(hb:blankN (c::r)=0)(I:c≠10)(hs:sym (c::r)=.ok [])(h:wd (k+1) (c::r)=.ok (x,q,m)):1<=m:=by
 rw[wd]at h
 cases o:ord (c::r)with
 | true=>
   rw[o,Q0b]at h
   cases f:wd k r with
   | error e=>rw[f]at h;cases h
   | ok y=>
     rcases y with⟨J,K,L⟩
     rw[f]at h
     injection h with h
     injection h with p a
     injection a with a g
     omega
 | false=>
   rw[o,Q0a]at h
   by_cases A:c=39
   ·rw[if_pos A]at h
    cases C:qd r with
    | none=>rw[C]at h;cases h
    | some y=>
      rcases y with⟨y,n⟩
      rw[C]at h
      dsimp only at h
      cases f:wd k (r.drop n)with
      | error e=>rw[f]at h;cases h
      | ok z=>
        rcases z with⟨J,K,L⟩
        rw[f]at h
        injection h with h
        injection h with p a
        injection a with a g
        omega
   exfalso
   obtain⟨p,a⟩:=X0t _ c r (by simp) hs
   have g:=X0r _ _ (by simp) a
   have t:([]:Str).isPrefixOf r=true:=by cases r<;>rfl
   have E:=g [62] (by simp)
   have F:=g [60] (by simp)
   have H:=g [124] (by simp)
   rw[pre_cons,t,G2x]at E F H
   have u:c≠32/\c≠9/\([92,10]:Str).isPrefixOf (c::r)=false:=by
    match r,hb with
    | [],hb=>
      unfold blankN at hb
      split at hb
      ·cases hb
      rename_i l
      exact⟨λe=>l (.inl e),λe=>l (.inr e),by rw[pre_cons,Z7x,G2s]⟩
    | d::r,hb=>
      unfold blankN at hb
      split at hb
      ·omega
      rename_i l
      split at hb
      ·omega
      rename_i M
      refine⟨λe=>l (.inl e),λe=>l (.inr e),?_⟩
      have t:([]:Str).isPrefixOf r=true:=by cases r<;>rfl
      rw[pre_cons,pre_cons,t,G2x,G6y]
      intro e
      simp at e
      exact M e
   have:=V4r c p (G6b H) (G6b E) (G6b F) u.1 u.2.1 I A
   have O:ord (c::r)=(!SYMI.contains c&&!([92,10]:Str).isPrefixOf (c::r)):=rfl
   rw[O,this,u.2.2]at o
   cases o
theorem K6n{p:Nat}{c:UInt8}{r:Str}{l l':List Token}{t:Bool}{m:Nat}(hb:blankN (c::r)=0)(A:c≠10)(h:tok p (c::r) l t=.ok (l',m)):l'.length<=1024/\1<=m/\m<=(c::r).length:=by
 unfold tok at h
 cases hs:sym (c::r)with
 | error e=>rw[hs]at h;cases h
 | ok w=>
   rw[hs]at h
   match w,hs,h with
   | [],hs,h=>
     dsimp only at h
     cases o:wd (c::r).length (c::r)with
     | error e=>rw[o]at h;cases h
     | ok y=>
       rcases y with⟨x,q,n⟩
       rw[o]at h
       dsimp only at h
       cases a:hat l ⟨1,p,x,q⟩ t with
       | error e=>rw[a]at h;cases h
       | ok z=>
         rw[a]at h
         injection h with h
         injection h with f g
         subst f;subst g
         exact⟨K7l a,K2t hb A hs o,(X0m _ _ _ _ _ o).1⟩
   | d::w,hs,h=>
     dsimp only at h
     have C:=(X6o hs).length_le
     cases a:hat l ⟨2,p,d::w,[]⟩ t with
     | error e=>rw[a]at h;cases h
     | ok z=>
       rw[a]at h
       dsimp only at h
       cases hd:decide (d::w=[36])||decide (d::w=[36,35])with
       | false=>
         rw[hd,Q0a]at h
         injection h with h
         injection h with f g
         subst f;subst g
         exact⟨K7l a,by simp,C⟩
       | true=>
         rw[hd,Q0b]at h
         cases u:name (p+(d::w).length) ((c::r).drop (d::w).length) z with
         | error e=>rw[u]at h;cases h
         | ok E=>
           rw[u]at h
           injection h with h
           injection h with f g
           subst f;subst g
           have:=X1s ((c::r).drop (d::w).length)
           rw[G1w]at this
           exact⟨V0o u,by simp;omega,by omega⟩
theorem X6j{p:Nat}{t:Str}{l:List Token}{m:Bool}{q c:Int}(h:tok p t l m=.error (q,c)):c≠0:=by
 unfold tok at h
 cases hs:sym t with
 | error e=>
   rw[hs]at h
   injection h with h
   injection h with g a
   rw[<-a]
   decide
 | ok w=>
   rw[hs]at h
   match w,hs,h with
   | [],hs,h=>
     dsimp only at h
     cases u:wd t.length t with
     | error e=>
       rw[u]at h
       injection h with h
       injection h with g a
       rw[<-a]
       decide
     | ok y=>
       rcases y with⟨x,C,n⟩
       rw[u]at h
       dsimp only at h
       cases f:hat l ⟨1,p,x,C⟩ m with
       | error e=>
         rcases e with⟨z,c2⟩
         rw[f]at h
         injection h with h
         injection h with g a
         rw[<-a,X8z f]
         decide
       | ok A=>rw[f]at h;cases h
   | d::w,hs,h=>
     dsimp only at h
     cases f:hat l ⟨2,p,d::w,[]⟩ m with
     | error e=>
       rcases e with⟨z,c2⟩
       rw[f]at h
       injection h with h
       injection h with g a
       rw[<-a,X8z f]
       decide
     | ok A=>
       rw[f]at h
       dsimp only at h
       cases hd:decide (d::w=[36])||decide (d::w=[36,35])with
       | false=>rw[hd,Q0a]at h;cases h
       | true=>
         rw[hd,Q0b]at h
         cases o:name (p+(d::w).length) (t.drop (d::w).length) A with
         | error e=>
           rcases e with⟨z,c2⟩
           rw[o]at h
           injection h with h
           injection h with g a
           rw[<-a]
           exact K3v o
         | ok E=>rw[o]at h;cases h
theorem Q8c:∀ (k:Nat) (t:Str),t.length<=k->blankN (t.drop (blankN t))=0
 | _,[],_=>rfl
 | _,[c],_=>by
   by_cases h:c=32\/c=9
   ·have:blankN [c]=1:=by unfold blankN;rw[if_pos h]
    rw[this]
    rfl
   have:blankN [c]=0:=by unfold blankN;rw[if_neg h]
   rw[this,G2u,this]
 | 0,c::d::r,h=>by simp at h
 | k+1,c::d::r,h=>by
   simp only[G0i]at h
   by_cases a:c=32\/c=9
   ·have:blankN (c::d::r)=blankN (d::r)+1:=by rw[blankN,if_pos a,G5s]
    rw[this,G4a]
    exact Q8c k (d::r) (by simp;omega)
   by_cases e:c=92/\d=10
   ·have:blankN (c::d::r)=blankN r+1+1:=by rw[blankN,if_neg a,if_pos e];omega
    rw[this,G4a,G4a]
    exact Q8c k r (by omega)
   have:blankN (c::d::r)=0:=by rw[blankN,if_neg a,if_neg e]
   rw[this,G2u,this]
def cmt(t:Str):Nat:=if 0<=Lib.indexByte t 10 then(Lib.indexByte t 10).toNat else t.length
theorem K5e{t:Str}(h:(10:UInt8)∉t):cmt t=t.length:=by
 unfold cmt
 rw[Q2j 10 t h,if_neg (by omega)]
theorem Y1e{a:Str}(b:Str)(h:(10:UInt8)∉a):cmt (a++10::b)=a.length:=by
 unfold cmt
 rw[Q2n 10 b a h,if_pos (by omega),G2l]
def lex:Nat->Nat->Str->List Token->List Str->Except (Int×Int) (List Token)
 | 0,_,_,_,_=>.error (0,1)
 | k+1,p,t,l,a=>
   match t.drop (blankN t)with
   | []=>bif decide (0<a.length)then .error (((p+blankN t:Nat):Int),3)else .ok l
   | c::r=>
     bif decide (c=35)then lex k (p+blankN t+cmt (c::r)) ((c::r).drop (cmt (c::r))) l a
     else bif decide (c=10)then(match nls (p+blankN t) (c::r) l a with
      | .error e=>.error e
      | .ok (d,m)=>lex k (p+blankN t+m) ((c::r).drop m) d [])
     else bif ([60,60]:Str).isPrefixOf (c::r)then(match here (p+blankN t) (c::r) l a with
      | .error e=>.error e
      | .ok (d,f,m)=>lex k (p+blankN t+m) ((c::r).drop m) d f)
     else(match tok (p+blankN t) (c::r) l (lastWord l&&decide (blankN t=0))with
      | .error e=>.error e
      | .ok (d,m)=>lex k (p+blankN t+m) ((c::r).drop m) d a)
def V2h(w:Except (Int×Int) (List Token))(r:Option (List Token×Int×Int)):Prop:=
 match w with
 | .ok l=>r=some (l,0,0)
 | .error (q,c)=>r=some ([],q,c)/\c≠0
theorem X9a(s:Str)(n:Nat)(a d q c:Int)(l:List Token)(e:List Str)(f:0<n)(g:c≠0):iter (Z5x s) n (a,d,q,c,l,e)=some ([],q,c):=by
 match n,f with
 | n+1,_=>
   show Z5x s _ _=_
   rw[Z5x,G0b g,Q0a]
theorem V6i{s:Str}(hl:s.length<=100000):∀ (k:Nat) (t pre:Str) (n:Nat) (U f:Int) (l:List Token) (g:List Str),t.length<k->s=pre++t->t.length+1<n->l.length<=1024->g.length+t.length<=1000000->
 V2h (lex k pre.length t l g) (iter (Z5x s) n ((pre.length:Int),U,f,0,l,g)):=by
 intro k
 induction k with
 | zero=>intro t pre n U f l g hk;omega
 | succ k E=>
   intro t pre n U f l g hk hs X Y av
   match n,X with
   | n+1,X=>
     have aw:s.length=pre.length+t.length:=by rw[hs];simp
     have hb:=Q9h t.length t (G0r _)
     have O:=Q8c t.length t (G0r _)
     have af:=K8t hs (by omega) (pre.length:Int) f 0 l g
     have u:s=(pre++t.take (blankN t))++t.drop (blankN t):=by rw[hs,G0e,G2t]
     have F:(pre++t.take (blankN t)).length=pre.length+blankN t:=by simp;omega
     have z:(t.drop (blankN t)).length=t.length-blankN t:=by simp
     have aa:=Q9u u (pre.length:Int) f 0 l g
     rw[F]at aa
     rw[lex]
     show V2h _ (Z5x s _ _)
     rw[Z5x,G0h (p:=(0:Int)=0) rfl,Q0b,af,G0a,aa,G0a]
     generalize blankN t=b at *
     generalize t.drop b=t' at *
     match t',u,O,z with
     | [],u,O,z=>
       rw[G0h (p:=([]:Str)=[]) rfl,Q0b]
       dsimp only
       by_cases Q:0<g.length
       ·rw[G0h Q,Q0b,G0h (by omega),Q0b]
        have:(s.length:Int)=((pre.length+b:Nat):Int):=by simp at z;omega
        rw[this]
        exact⟨rfl,by decide⟩
       rw[G0b Q,Q0a,G0b (by omega),Q0a]
       exact rfl
     | c::r,u,O,z=>
       have Q:sidx (c::r) 0=some (B c):=Q5a [] c r
       have cut:∀m,m<=(c::r).length->s=(pre++t.take b++(c::r).take m)++(c::r).drop m/\(pre++t.take b++(c::r).take m).length=pre.length+b+m:=by
        intro m hm
        refine⟨by rw[G0e (pre++t.take b),G2t];exact u,?_⟩
        rw[G0g,F,G1v]
        omega
       rw[G0b (p:=c::r=[]) (by simp),Q0a,Q,G0a,B35,B10]
       dsimp only
       by_cases V:c=35
       ·rw[G0h V,Q0b,Q0b,Q0h,G0a,show(10:Int).toNat.toUInt8=10 by decide]
        rcases firstOf 10 (c::r)with H|⟨a,w,H,A⟩
        ·obtain⟨o,c2⟩:=cut (c::r).length (G0r _)
         rw[Q2j 10 _ H,G0b (by omega),Q0a,K5e H,Q0j (by omega) (by omega)]
         have h:=E ((c::r).drop (c::r).length) _ n (pre.length:Int) f l g (by simp at z |-;omega) o (by simp at z |-;omega) Y (by simp;omega)
         rw[c2]at h
         exact h
        have az:(c::r).length=a.length+(w.length+1):=by rw[A];simp
        have aA:0<a.length:=by
         match a,A with
         | [],A=>
           have:c=10:=(List.cons.inj A).1
           rw[V]at this
           exact absurd this (by decide)
         | d::a,_=>simp
        obtain⟨o,c2⟩:=cut a.length (by omega)
        have hi:Lib.indexByte (c::r) 10=(a.length:Int):=by rw[A];exact Q2n 10 w a H
        have hc:cmt (c::r)=a.length:=by rw[A];exact Y1e w H
        rw[hi,G0h (by omega),Q0b,hc,Q0j (n:=(((pre.length+b:Nat):Int)+((c::r).length:Int))) (by omega) (by omega),Q0j (n:=(a.length:Int)-((c::r).length:Int)) (by omega) (by omega),Q0j (by omega) (by omega)]
        have e1:((pre.length+b:Nat):Int)+((c::r).length:Int)+((a.length:Int)-((c::r).length:Int))=((pre.length+b+a.length:Nat):Int):=by omega
        rw[e1]
        have h:=E ((c::r).drop a.length) _ n (pre.length:Int) f l g (by rw[G1w];omega) o (by rw[G1w];omega) Y (by rw[G1w];omega)
        rw[c2]at h
        exact h
       rw[G0b V,Q0a,Q0a]
       by_cases W:c=10
       ·rw[G0h W,Q0b,Q0b]
        have I:=Y4j u (by simp) (by omega) (pre.length:Int) f 0 l g (by omega)
        rw[F]at I
        cases hq:nls (pre.length+b) (c::r) l g with
        | error e=>
          rcases e with⟨q,cc⟩
          rw[hq]at I
          obtain⟨bb,j,l',J⟩:=I
          rw[J,G0a]
          dsimp only
          rw[Q0a]
          exact⟨X9a s n _ _ _ _ _ _ (by omega) (X8a hq),X8a hq⟩
        | ok y=>
          rcases y with⟨x,m⟩
          rw[hq]at I
          obtain⟨K,g2,L⟩:=K7c (by simp) hq
          have am:J9t s ((pre.length+b:Nat):Int) (pre.length:Int) f 0 l g=some (true,true,((pre.length+b+m:Nat):Int),f,0,x):=I
          rw[am,G0a]
          dsimp only
          rw[Q0b]
          obtain⟨o,c2⟩:=cut m L
          have h:=E ((c::r).drop m) _ n (pre.length:Int) f x [] (by rw[G1w];omega) o (by rw[G1w];omega) K (by rw[G1w];simp only[G0z];omega)
          rw[c2]at h
          exact h
       rw[G0b W,Q0a,Q0a,Q6u _ _ (by omega),G0a]
       cases ao:([60,60]:Str).isPrefixOf (c::r)with
       | true=>
         rw[Q0b,Q0b]
         have ad:=(G2y.1 ao).length_le
         have M:=Y4f u ad (by omega) (pre.length:Int) f 0 l g (by omega)
         rw[F]at M
         cases hq:here (pre.length+b) (c::r) l g with
         | error e=>
           rcases e with⟨q,cc⟩
           rw[hq]at M
           obtain⟨bb,j,l',aB,J⟩:=M
           rw[J,G0a]
           dsimp only
           exact⟨X9a s n _ _ _ _ _ _ (by omega) (X2c hq),X2c hq⟩
         | ok y=>
           rcases y with⟨x,ae,m⟩
           rw[hq]at M
           obtain⟨K,_,g2,L,g4⟩:=X8v ad hq
           have aq:J9s s ((pre.length+b:Nat):Int) (pre.length:Int) f 0 l g=some (true,((pre.length+b+m:Nat):Int),f,0,x,ae):=M
           rw[aq,G0a]
           dsimp only
           obtain⟨o,c2⟩:=cut m L
           have h:=E ((c::r).drop m) _ n (pre.length:Int) f x ae (by rw[G1w];omega) o (by rw[G1w];omega) K (by rw[G1w];omega)
           rw[c2]at h
           exact h
       | false=>
         rw[Q0a,Q0a]
         have C:=Y4e u (by omega) (pre.length:Int) f 0 l g (by omega)
         rw[F]at C
         have hd:decide ((pre.length:Int)=((pre.length+b:Nat):Int))=decide (b=0):=G1e.2 ⟨λe=>by omega,λe=>by omega⟩
         rw[hd]at C
         cases hq:tok (pre.length+b) (c::r) l (lastWord l&&decide (b=0))with
         | error e=>
           rcases e with⟨q,cc⟩
           rw[hq]at C
           obtain⟨j,l',J⟩:=C
           rw[J,G0a]
           dsimp only
           exact⟨X9a s n _ _ _ _ _ _ (by omega) (X6j hq),X6j hq⟩
         | ok y=>
           rcases y with⟨x,m⟩
           rw[hq]at C
           obtain⟨K,g2,L⟩:=K6n O W hq
           have ar:F44 s ((pre.length+b:Nat):Int) (pre.length:Int) f 0 l g=some (true,((pre.length+b+m:Nat):Int),f,0,x):=C
           rw[ar,G0a]
           dsimp only
           obtain⟨o,c2⟩:=cut m L
           have h:=E ((c::r).drop m) _ n (pre.length:Int) f x g (by rw[G1w];omega) o (by rw[G1w];omega) K (by rw[G1w];omega)
           rw[c2]at h
           exact h
theorem F5_eq(s:Str)(a:s.length<=65536):V2h (lex (s.length+1) 0 s [] []) (F19 s):=by
 unfold F19
 rw[G0b (by omega),Q0a]
 exact V6i (s:=s) (by omega) (s.length+1) s [] BIG 0 0 [] [] (by omega) rfl (by unfold BIG;omega) (by simp) (by simp;omega)
theorem lex_len:∀ (k p:Nat) (t:Str) (l l':List Token) (d:List Str),l.length<=1024->lex k p t l d=.ok l'->l'.length<=1024
 | 0,p,t,l,l',d,g,h=>by rw[lex]at h;cases h
 | k+1,p,t,l,l',d,g,a=>by
   rw[lex]at a
   have f:=Q8c t.length t (G0r _)
   generalize blankN t=b at *
   generalize t.drop b=t' at *
   match t',f,a with
   | [],f,a=>
     dsimp only at a
     cases hd:decide (0<d.length)with
     | true=>rw[hd,Q0b]at a;cases a
     | false=>rw[hd,Q0a]at a;injection a with a;subst a;exact g
   | c'::r,f,a=>
     dsimp only at a
     by_cases u:c'=35
     ·rw[G0h u,Q0b]at a
      exact lex_len _ _ _ _ _ _ g a
     rw[G0b u,Q0a]at a
     by_cases o:c'=10
     ·rw[G0h o,Q0b]at a
      cases hq:nls (p+b) (c'::r) l d with
      | error e=>rw[hq]at a;cases a
      | ok y=>
        rcases y with⟨x,m⟩
        rw[hq]at a
        exact lex_len _ _ _ _ _ _ (K7c (by simp) hq).1 a
     rw[G0b o,Q0a]at a
     cases q:([60,60]:Str).isPrefixOf (c'::r)with
     | true=>
       rw[q,Q0b]at a
       cases hq:here (p+b) (c'::r) l d with
       | error e=>rw[hq]at a;cases a
       | ok y=>
         rcases y with⟨x,z,m⟩
         rw[hq]at a
         exact lex_len _ _ _ _ _ _ (X8v (G2y.1 q).length_le hq).1 a
     | false=>
       rw[q,Q0a]at a
       cases hq:tok (p+b) (c'::r) l (lastWord l&&decide (b=0))with
       | error e=>rw[hq]at a;cases a
       | ok y=>
         rcases y with⟨x,m⟩
         rw[hq]at a
         exact lex_len _ _ _ _ _ _ (K6n f o hq).1 a
def isD(c:UInt8):Bool:=decide (48<=c.toNat)&&decide (c.toNat<=57)
def two(c d:UInt8):Option Nat:=if c=48 then none else if 10 * (c.toNat-48)+(d.toNat-48)<64 then some 2 else none
def numR:Str->Option Nat
 | []=>none
 | [c]=>if isD c then some 1 else none
 | [c,d]=>if isD c then(if isD d then two c d else some 1)else none
 | c::d::e::_=>if isD c then(if isD d then(if isD e then none else two c d)else some 1)else none
theorem Z6w{c:UInt8}(h:isD c=true):48<=c.toNat/\c.toNat<=57:=by
 unfold isD at h
 simpa using h
theorem Z5p{c:UInt8}(h:isD c=true):c=UInt8.ofNat (48+(c.toNat-48)):=by
 obtain⟨a,d⟩:=Z6w h
 rw[show 48+(c.toNat-48)=c.toNat by omega,G4o]
theorem Y8n:((List.range 10).all λi=>match Lib.atoiAll [UInt8.ofNat (48+i)]with|.ok v=>v==(i:Int)|_=>false)=true:=by kernel_rfl
theorem Y8m:((List.range 54).all λi=>match Lib.atoiAll [UInt8.ofNat (48+(i+10) / 10),UInt8.ofNat (48+(i+10) % 10)]with|.ok v=>v==((i+10:Nat):Int)|_=>false)=true:=by kernel_rfl
theorem V2y{n:Nat}(h:n<64):F166 (Lib.decDigits n)=some true:=by
 have e:Z3g (Lib.decDigits n)=some ((n:Int),false):=by
  unfold Z3g
  by_cases a:n<10
  ·have:=G0p.1 Y8n n (G1y.2 a)
   rw[Lib.decDigits_one a,if_pos (by simp)]
   split at this
   ·rename_i v d
    rw[d]
    simp only[G3o]at this
    rw[this]
   cases this
  have:=G0p.1 Y8m (n-10) (G1y.2 (by omega))
  rw[show n-10+10=n by omega]at this
  rw[Lib.decDigits_two a (by omega),if_pos (by simp)]
  split at this
  ·rename_i v d
   rw[d]
   simp only[G3o]at this
   rw[this]
  cases this
 unfold F166
 rw[e,G0a]
 dsimp only
 have f:Q4z (n:Int)=some (Lib.decDigits n):=by
  unfold Q4z
  rw[if_pos ⟨by omega,by omega⟩,G2l]
 rw[f,G0h (p:=(0:Int)<=(n:Int)) (by omega),G0h (p:=(n:Int)<64) (by omega)]
 simp[Q0e]
theorem V2x{x:Str}(e:x.length<=1000000)(h:F166 x=some true):∃n,n<64/\x=Lib.decDigits n:=by
 unfold F166 at h
 obtain⟨⟨n,b⟩,f,h⟩:=G1x.1 h
 dsimp only at h
 cases a:(!b&&decide (0<=n))&&decide (n<64)with
 | false=>
   rw[a]at h
   simp[Q0e]at h
 | true=>
   rw[a]at h
   simp only[G0d,G0l]at a
   have d:Q4z n=some (Lib.decDigits n.toNat):=by
    unfold Q4z
    rw[if_pos ⟨a.1.2,by omega⟩]
   rw[d]at h
   simp[Q0e]at h
   exact⟨n.toNat,by omega,h.symm⟩
theorem Z2c{i:Nat}(h:i<10):(UInt8.ofNat (48+i)).toNat=48+i:=by
 rw[UInt8.toNat_ofNat']
 omega
theorem J8m{i:Nat}(h:i<10):isD (UInt8.ofNat (48+i))=true:=by
 unfold isD
 rw[Z2c h]
 simp
 omega
theorem K3u{n:Nat}(h:n<64):numR (Lib.decDigits n)=some (Lib.decDigits n).length:=by
 by_cases a:n<10
 ·rw[Lib.decDigits_one a,numR,J8m a]
  rfl
 rw[Lib.decDigits_two a (by omega),numR,J8m (by omega),J8m (by omega),if_pos rfl,if_pos rfl,two,Z2c (by omega),Z2c (by omega),if_neg,if_pos (by omega)]
 ·rfl
 intro e
 have:=G4e UInt8.toNat e
 rw[Z2c (by omega)]at this
 simp at this
 omega
theorem V2z{x:Str}(g:x.length<=1000000):F166 x=some (decide (numR x=some x.length)):=by
 obtain⟨b,hb⟩:=J9r x g
 cases b with
 | true=>
   obtain⟨n,f,rfl⟩:=V2x g hb
   rw[hb,K3u f]
   simp
 | false=>
   rw[hb]
   congr 1
   refine(G0b λh=>?_).symm
   have hd:∃n,n<64/\x=Lib.decDigits n:=by
    match x,h with
    | [c],h=>
      rw[numR]at h
      split at h
      ·rename_i a
       obtain⟨l,m⟩:=Z6w a
       exact⟨c.toNat-48,by omega,by rw[Lib.decDigits_one (by omega),<-Z5p a]⟩
      cases h
    | [c,d],h=>
      rw[numR]at h
      split at h
      ·rename_i a
       split at h
       ·rename_i hd
        obtain⟨l,m⟩:=Z6w a
        obtain⟨q,t⟩:=Z6w hd
        unfold two at h
        split at h
        ·cases h
        rename_i o
        split at h
        ·rename_i p
         have u:c.toNat≠48:=λe=>o (by rw[<-G4o (x:=c),e];rfl)
         refine⟨10 * (c.toNat-48)+(d.toNat-48),p,?_⟩
         rw[Lib.decDigits_two (by omega) (by omega)]
         rw[show(10 * (c.toNat-48)+(d.toNat-48)) / 10=c.toNat-48 by omega,show(10 * (c.toNat-48)+(d.toNat-48)) % 10=d.toNat-48 by omega,<-Z5p a,<-Z5p hd]
        cases h
       simp at h
      cases h
    | c::d::e::r,h=>
      rw[numR]at h
      split at h
      ·split at h
       ·split at h
        ·cases h
        unfold two at h
        split at h
        ·cases h
        split at h
        ·simp at h
        cases h
       simp at h
      cases h
   obtain⟨n,f,rfl⟩:=hd
   rw[V2y f]at hb
   cases hb
def hd0:Str->Bool
 | []=>false
 | c::_=>isD c
theorem J3f{y:Str}(a:hd0 y=false):∀x:Str,(numR x=some x.length->numR (x++y)=some x.length)/\(numR x≠some x.length->numR (x++y)=none\/∃k,k<x.length/\numR (x++y)=some k)
 | []=>by
   refine⟨λh=>by simp[numR]at h,λ_=>.inl ?_⟩
   match y,a with
   | [],_=>rfl
   | [c],a=>simp only[hd0]at a;simp[numR,a]
   | [c,d],a=>simp only[hd0]at a;simp[numR,a]
   | c::d::e::r,a=>simp only[hd0]at a;simp[numR,a]
 | [c]=>by
   have g:numR (c::y)=if isD c then some 1 else none:=by
    match y,a with
    | [],_=>rfl
    | [d],a=>simp only[hd0]at a;simp[numR,a]
    | d::e::r,a=>simp only[hd0]at a;simp[numR,a]
   show(numR [c]=some 1->numR (c::y)=some 1)/\(numR [c]≠some 1->numR (c::y)=none\/∃k,k<1/\numR (c::y)=some k)
   rw[g]
   simp only[numR]
   cases isD c<;>simp
 | [c,d]=>by
   have g:numR (c::d::y)=if isD c then(if isD d then two c d else some 1)else none:=by
    match y,a with
    | [],_=>rfl
    | e::r,a=>simp only[hd0]at a;simp[numR,a]
   show(numR [c,d]=some 2->numR (c::d::y)=some 2)/\(numR [c,d]≠some 2->numR (c::d::y)=none\/∃k,k<2/\numR (c::d::y)=some k)
   rw[g]
   simp only[numR]
   cases isD c<;>cases isD d<;>simp
   unfold two
   split
   ·simp
   split<;>simp
 | c::d::e::r=>by
   have g:numR (c::d::e::r++y)=numR (c::d::e::r):=rfl
   rw[g]
   refine⟨λh=>h,λh=>?_⟩
   cases f:numR (c::d::e::r)with
   | none=>exact .inl rfl
   | some k=>
     refine .inr ⟨k,?_,rfl⟩
     rw[numR]at f
     split at f
     ·split at f
      ·split at f
       ·cases f
       unfold two at f
       split at f
       ·cases f
       split at f
       ·injection f with f;simp;omega
       cases f
      injection f with f;simp;omega
     cases f
theorem Q4s{s pre:Str}{d:Str}{c:UInt8}{r:Str}(hs:s=pre++(d++c::r)):sidx s ((pre.length+d.length:Nat):Int)=some (B c):=by
 have h:=Q5a (pre++d) c r
 rw[G0e,<-hs,G0g]at h
 exact h
def chk(r:Str)(k:Nat):Option Nat:=if r[k]?=some 93 then some (k+1)else none
def refB(r:Str)(a:Bool):Option Nat:=
 match numR r with
 | none=>none
 | some m=>if r[m]?=some 61/\a=true then(match r[m+1]? with
    | some c=>if c=93 then chk r (m+1)else(match numR (r.drop (m+1))with
      | none=>none
      | some k=>chk r (m+1+k))
    | none=>chk r (m+1))
   else chk r m
theorem V3c{a:Str}(w:Str)(d:Bool)(g:(93:UInt8)∉a)(p:a.length<=1000000):F125 (91::(a++93::w)) d=((F166 (Lib.cut a [61]).1).bind λf=>
 (Q0e (((f&&(Lib.cut a [61]).2.2)&&d)&&!decide ((Lib.cut a [61]).2.1=[])) (F166 (Lib.cut a [61]).2.1)).bind λl=>
 (bif (!f||((Lib.cut a [61]).2.2&&(!d||(!decide ((Lib.cut a [61]).2.1=[])&&!l))))then some 0 else some ((a.length+2:Nat):Int))):=by
 have m:(93:Int).toNat.toUInt8=93:=by decide
 have o:=Q2n 93 w (91::a) (by simp only[G1j,not_or];exact⟨by decide,g⟩)
 have hs:Q0n (91::(a++93::w)) 1 ((91::a).length:Int)=some a:=sslice_part [91] a (93::w)
 unfold F125
 rw[Q0h,G0a,m]
 rw[show(91::(a++93::w):Str)=(91::a)++93::w from rfl,o,G0b (by omega),Q0a]
 rw[show((91::a)++93::w:Str)=91::(a++93::w) from rfl,hs,G0a,Z9k,if_pos (by omega),G0a]
 rw[Q0j (by omega) (by simp;omega)]
 have e:((91::a).length:Int)+1=((a.length+2:Nat):Int):=by simp;omega
 rw[e]
theorem Z5q{t:Str}{a:Bool}{k:Nat}(h:F125 t a=some (k:Int)):brk t a=k:=by
 unfold brk
 rw[h]
 simp
theorem brk_ref(r:Str)(l:Bool)(M:r.length<=1000000):brk (91::r) l=(match refB r l with
 | some k=>k+1
 | none=>0):=by
 rcases firstOf 93 r with h|⟨a,w,t,rfl⟩
 ·have m:∀k,chk r k=none:=by
   intro k
   unfold chk
   rw[if_neg]
   intro e
   exact h (G1o e)
  have:refB r l=none:=by
   unfold refB
   split
   ·rfl
   split
   ·split
    ·split
     ·exact m _
     split
     ·rfl
     exact m _
    exact m _
   exact m _
  rw[this]
  exact Z5q (k:=0) (X3e l h)
 have o:a.length<=1000000:=by simp at M;omega
 have at_:∀k,k<a.length->((a++93::w)[k]?≠some 93):=by
  intro k hk e
  rw[G0q hk]at e
  exact t (G1o e)
 have q:∀k,k<a.length->chk (a++93::w) k=none:=λk hk=>if_neg (at_ k hk)
 have u:chk (a++93::w) a.length=some (a.length+1):=by
  unfold chk
  rw[if_pos]
  simp
 have d:=V3c w l t o
 rcases firstOf 61 a with K|⟨x,y,L,rfl⟩
 ·
  rw[Z2z K]at d
  simp only[G2s,G3b,Q0e,Q0a,G0a,G3l]at d
  rw[V2z o,G0a]at d
  obtain⟨A,I⟩:=J3f (y:=93::w) rfl a
  by_cases g:numR a=some a.length
  ·rw[G0h g,G0m,Q0a]at d
   rw[Z5q d]
   unfold refB
   rw[A g]
   have:¬ ((a++93::w)[a.length]?=some 61/\l=true):=by simp
   simp only[if_neg this,u]
  rw[G0b g,G0o,Q0b]at d
  rw[Z5q (k:=0) d]
  unfold refB
  rcases I g with e|⟨k,hk,e⟩
  ·rw[e]
  rw[e]
  have:¬ ((a++93::w)[k]?=some 61/\l=true):=by
   rintro⟨e,_⟩
   rw[G0q hk]at e
   exact K (G1o e)
  simp only[if_neg this,q k hk]
 
 have O:x.length<=1000000:=by simp at o;omega
 have C:y.length<=1000000:=by simp at o;omega
 rw[cut_at y L]at d
 have f:(x++61::y)++93::w=x++61::(y++93::w):=by simp
 obtain⟨A,I⟩:=J3f (y:=61::(y++93::w)) rfl x
 rw[V2z O,V2z C]at d
 have E:x.length<(x++61::y).length:=by simp
 by_cases g:numR x=some x.length
 ·rw[G0h g,G0a]at d
  have F:((x++61::y)++93::w)[x.length]?=some 61:=by rw[f];simp
  cases l with
  | false=>
    simp only[G0x,G2s,G3b,Q0e,Q0a,G0a,G0m,G0o,G4t,G7h,Q0b]at d
    rw[Z5q (k:=0) d]
    unfold refB
    rw[f,A g,<-f]
    simp only[G3a,and_false,G2v]
    rw[q _ E]
  | true=>
    unfold refB
    rw[f,A g,<-f]
    simp only[F,and_self,if_true]
    match y,C,d,f,t,o,at_,q,u,E,F with
    | [],C,d,f,t,o,at_,q,u,E,F=>
      simp only[G0x,G4x,G0m,G3b,Q0e,Q0a,G0a,G3l,G2k,G9d]at d
      have J:(x++[61]).length=x.length+1:=by simp
      have m:((x++[61])++93::w)[x.length+1]?=some 93:=by simp
      rw[m]
      simp only[if_true]
      rw[<-J,u,Z5q d]
    | z::y,C,d,f,t,o,at_,q,u,E,F=>
      have Q:z≠93:=λe=>t (by rw[e];simp)
      have m:((x++61::z::y)++93::w)[x.length+1]?=some z:=by rw[f];simp
      rw[m]
      simp only[if_neg Q]
      have U:((x++61::z::y)++93::w).drop (x.length+1)=(z::y)++93::w:=by rw[f];simp
      rw[U]
      rw[G0b (p:=z::y=[]) (by simp)]at d
      simp only[G0x,G0o,Q0e,Q0b,G0a,G0m,G2k]at d
      obtain⟨V,W⟩:=J3f (y:=93::w) rfl (z::y)
      have J:(x++61::z::y).length=x.length+1+(z::y).length:=by simp;omega
      by_cases H:numR (z::y)=some (z::y).length
      ·rw[G0h H,G0m,Q0a]at d
       rw[V H]
       simp only[]
       rw[<-J,u,Z5q d]
      rw[G0b H,G0o,Q0b]at d
      rw[Z5q (k:=0) d]
      rcases W H with e|⟨k,hk,e⟩
      ·rw[e]
      rw[e]
      simp only[]
      rw[q _ (by omega)]
 rw[G0b g,G0a]at d
 simp only[G3b,Q0e,Q0a,G0a,G0o,G4t,Q0b]at d
 rw[Z5q (k:=0) d]
 unfold refB
 rcases I g with e|⟨k,hk,e⟩
 ·rw[f,e]
 rw[f,e,<-f]
 have X:k<(x++61::y).length:=by omega
 have:¬ (((x++61::y)++93::w)[k]?=some 61/\l=true):=by
  rintro⟨e,_⟩
  rw[f,G0q hk]at e
  exact L (G1o e)
 simp only[if_neg this,q k X]
end Go.Abs.U48.Lx
namespace Go.Abs.U48
open Go Go.Proofs
theorem Y1j{s e:Str}{at_ f:Int}{a:Int->Option (Str×Int×Int)}(d:∀p r,a p=some r->r.1.length<=s.length):∀ (n:Nat) (p:Int) (r:Str×Int×Int),iter (Z1e s f e at_ a) n p=some r->r.1.length<=s.length:=by
 intro n
 induction n with
 | zero=>intro p r h;cases h
 | succ n g=>
   intro p r h
   replace h:Z1e s f e at_ a (iter (Z1e s f e at_ a) n) p=some r:=h
   rw[Z1e]at h
   obtain⟨c,-,h⟩:=G1x.1 h
   revert h
   cases(decide (p<(s.length:Int))&&!decide (c=10))with
   | true=>exact λh=>g _ _ h
   | false=>
     rw[Q0a]
     intro h
     obtain⟨t,-,h⟩:=G1x.1 h
     revert h
     cases decide (t=e)with
     | false=>exact λh=>d _ _ h
     | true=>
       rw[Q0b]
       intro h
       obtain⟨u,l,h⟩:=G1x.1 h
       injection h with h
       subst h
       have:=(Q1l l).2.2.2.2
       rw[<-this,G1v,G1w]
       omega
theorem V3b{s e:Str}{at_:Int}{r:Str×Int×Int}(h:F54 s at_ e=some r):r.1.length<=s.length:=by
 rw[F54]at h
 revert h
 cases(decide (at_<0)||decide ((s.length:Int)<at_))with
 | true=>
   rw[Q0b]
   intro h
   injection h with h
   subst h
   exact G1t _
 | false=>
   rw[Q0a]
   have:∀ (n:Nat) (p:Int) (r:Str×Int×Int),iter (Q2i s e at_) n p=some r->r.1.length<=s.length:=by
    intro n
    induction n with
    | zero=>intro p r h;cases h
    | succ n a=>
      intro p r h
      replace h:Q2i s e at_ (iter (Q2i s e at_) n) p=some r:=h
      rw[Q2i]at h
      revert h
      cases decide (p<(s.length:Int))with
      | true=>exact λh=>Y1j a BIG _ _ h
      | false=>
        rw[Q0a]
        intro h
        injection h with h
        subst h
        exact G1t _
   exact λh=>this _ _ _ h
def hre(S:Str)(a:Int)(e:Str):Str×Int×Int:=(F54 S a e).getD ([],0,0)
theorem V6k{S:Str}(hs:S.length<=1000000)(a:Int)(e:Str):F72 S a e=some (hre S a e)/\F54 S a e=some (hre S a e)/\(hre S a e).1.length<=1000000:=by
 obtain⟨r,f,d⟩:=Lx.heres (s:=S) (e:=e) (at_:=a) hs
 have g:=V3b d
 rw[hre,d]
 exact⟨f,rfl,G3c g hs⟩
def hk(T:List Token):Nat->Nat->List Int
 | _,0=>[]
 | k,n+1=>if (tp T (k:Int)).kind_=4 then(k:Int)::hk T (k+1) n else hk T (k+1) n
def dst(S:Str)(T:List Token):List Int->Int->List Str->List Str
 | [],_,D=>D
 | k::r,a,D=>dst S T r (hre S a (tp T k).text_).2.1 (D.set k.toNat (hre S a (tp T k).text_).1)
section
variable {S:Str}{T:List Token}
theorem lset{D:List Str}{k:Int}(a:0<=k)(h:k<D.length):∃w,lidx D k=some w:=by
 have d:k.toNat<D.length:=by omega
 exact⟨D[k.toNat],by rw[lidx,if_pos a,G0f d]⟩
theorem Y1i(hs:S.length<=1000000)(hT:T.length<=1000000)(e:Int×List Str×List Int->Option (List Str))(i:Int):∀ (r pre:List Int) (m:Nat) (a:Int) (D:List Str),
 r.length<m->D.length=T.length->(pre++r).length<=1000000->(∀k∈r,0<=k/\k<T.length)->
 iter (Z9p (pre++r) T S e i) m (a,(pre.length:Int),D)=e (IntKind.wrap .i64 (i+1),dst S T r a D,[])
 | [],pre,m+1,a,D,g,hD,l,d=>by
   show Z9p _ _ _ _ _ _ _=_
   rw[Z9p]
   try dsimp only
   rw[G0n,G0b (by omega),Q0a,dst]
 | k::r,pre,m+1,a,D,g,hD,l,d=>by
   show Z9p _ _ _ _ _ _ _=_
   have o:=(d k (.head _)).1
   have p:=(d k (.head _)).2
   obtain⟨w,q⟩:=lset (D:=D) o (by omega)
   simp only[G0g,G0i]at l g
   have f:lidx (pre++k::r) (pre.length:Int)=some k:=by
    rw[Z2n]
    simp
   rw[Z9p]
   try dsimp only
   rw[G0h (by simp only[G0g,G0i];omega),Q0b,f,G0a,Z8g o p,G0a,(V6k hs _ _).1,G0a]
   try dsimp only
   rw[q,G0a,wr1 (by omega) (by omega)]
   have:=Y1i hs hT e i r (pre++[k]) m (hre S a (tp T k).text_).2.1 (D.set k.toNat (hre S a (tp T k).text_).1) (by omega) (by rw[G3y];exact hD) (by simp only[G0g,G0i,G0z];omega) (λx f=>d x (.tail _ f))
   rw[G0e,G8w,G0g,G0i,G0z]at this
   exact this
end
def shpB(c:Cmd)(n w r:Bool):Bool:=(bif n then nameB c.name_ else decide (c.name_=[]))&&((w||decide (c.words_.length=0))&&(r||decide (c.redirs_.length=0)))
theorem J1w(c:Cmd)(n w r:Bool)(e:c.name_.length<=1000000):F99 c (Shape.mk n w r)=some (shpB c n w r):=by
 rw[F99,J4r _ (by omega),G0a,shpB]
 have a:decide ((c.words_.length:Int)=0)=decide (c.words_.length=0):=G1e.2 (by omega)
 have d:decide ((c.redirs_.length:Int)=0)=decide (c.redirs_.length=0):=G1e.2 (by omega)
 rw[a,d]
 show(bif (!(n==nameB c.name_)||(!n&&!decide (c.name_=[])))then some false else some ((w||decide (c.words_.length=0))&&(r||decide (c.redirs_.length=0))))=_
 cases n with
 | true=>
   cases nameB c.name_<;>rfl
 | false=>
   by_cases h:c.name_=[]
   ·rw[h];rfl
   rw[G0b h]
   cases nameB c.name_<;>rfl
section
variable (nm:Str)(w r n:Nat)
theorem r0:decide (0<r)=!decide (r=0):=by
 by_cases h:r=0
 ·rw[G0h h,G0b (by omega)];rfl
 rw[G0b h,G0h (by omega)];rfl
theorem shU(k:Int)(hk:k=3\/k=5\/k=6\/k=7\/k=8\/k=9\/k=11\/k=13\/k=14\/k=16\/k=17):Q0x k nm w r n=((decide (nm=[])&&decide (r=0)) &&
 (bif (decide (k=7)||(decide (k=13)||(decide (k=9)||decide (k=14))))then(decide (w=0)&&decide (n=1))
 else bif (decide (k=8)||(decide (k=11)||(decide (k=5)||decide (k=6))))then(decide (w=0)&&decide (n=2))
 else bif decide (k=3)then(decide (w=0)&&decide (2<=n))
 else bif decide (k=16)then(decide (0<w)&&decide (n=0))
 else decide (w=1))):=by
 rcases hk with rfl|rfl|rfl|rfl|rfl|rfl|rfl|rfl|rfl|rfl|rfl<;>(unfold Q0x;rw[r0];cases decide (nm=[])<;>cases decide (r=0)<;>rfl)
theorem sh1:Q0x 1 nm w r n=(decide (nm=[])&&(decide (0<w+r)&&decide (n=0))):=by
 unfold Q0x;rw[r0];cases decide (nm=[])<;>cases decide (r=0)<;>rfl
theorem sh12:Q0x 12 nm w r n=(decide (nm=[])&&decide (w=0)):=by
 unfold Q0x;rw[r0];cases decide (nm=[])<;>cases decide (r=0)<;>rfl
theorem sh2:Q0x 2 nm w r n=((nameB nm&&decide (r=0))&&(decide (w=1)&&decide (n<=1))):=by
 unfold Q0x;rw[r0];cases nameB nm<;>cases decide (r=0)<;>rfl
theorem sh10:Q0x 10 nm w r n=((nameB nm&&decide (r=0))&&decide (n=1)):=by
 unfold Q0x;rw[r0];cases nameB nm<;>cases decide (r=0)<;>rfl
theorem sh15:Q0x 15 nm w r n=((nameB nm&&decide (r=0))&&decide (w=0)):=by
 unfold Q0x;rw[r0];cases nameB nm<;>cases decide (r=0)<;>rfl
end
theorem all0{α:Type}(p:α->Bool)(l:List α):(decide (l.length=0)&&l.all p)=decide (l.length=0):=by
 cases l with
 | nil=>rfl
 | cons a l=>rw[show decide ((a::l).length=0)=false from G0b (by simp)];rfl
def oneB(ks:List Cmd):Bool:=match ks with
 | [u]=>lvl 1 u.kind_&&rC u
 | _=>false
theorem X7w(ks:List Cmd):(decide (ks.length=1)&&ks.all λc=>lvl 1 c.kind_&&rC c)=oneB ks:=by
 rcases ks with _|⟨u,_|⟨v,r⟩⟩
 ·rfl
 ·rw[oneB,G2m,G4z,G2x];rfl
 rw[show decide ((u::v::r).length=1)=false from G0b (by simp)];rfl
theorem V5m(ks:List Cmd):(decide (ks.length<=1)&&ks.all λc=>lvl 1 c.kind_&&rC c)=(decide (ks.length=0)||oneB ks):=by
 rcases ks with _|⟨u,_|⟨v,r⟩⟩
 ·rfl
 ·rw[oneB,G2m,G4z,G2x];rfl
 rw[show decide ((u::v::r).length<=1)=false from G0b (by simp)];rfl
theorem J7c(a:Cmd->Option Bool)(l:List Cmd)(g:l.length<=1000000)(h:∀c∈l,F64 a c=some (lvl 4 c.kind_&&rC c)):F29 a l=some (l.all λc=>lvl 4 c.kind_&&rC c):=by
 rw[F29,K1y,K1s,Q1e (body:=J4j l a) l (λu i k=>(F63 a u).bind λr=>bif r then some i else k) (some (-1)) (λ_ _=>rfl) (by omega)]
 obtain⟨r,d,e⟩:=Q6m (λc=>!(lvl 4 c.kind_&&rC c)) (F63 a) l 0 (λx f=>by rw[F63,h x f];rfl)
 rw[show((0:Nat):Int)=0 from rfl]at d
 rw[d,G0a,G0a,e,G4k]
 simp only[G6f]
theorem K6c(a:Cmd->Option Bool)(l:List Cmd)(g:l.length<=1000000)(h:∀c∈l,a c=some (lvl 1 c.kind_&&rC c)):X6b a l=some (!l.all λc=>lvl 1 c.kind_&&rC c):=by
 rw[X6b,K1r,Q1e (body:=J4i l a) l (λu i k=>(F183 a u).bind λr=>bif r then some i else k) (some (-1)) (λ_ _=>rfl) (by omega)]
 obtain⟨r,d,e⟩:=Q6m (λc=>!(lvl 1 c.kind_&&rC c)) (F183 a) l 0 (λx f=>by rw[F183,h x f];rfl)
 rw[show((0:Nat):Int)=0 from rfl]at d
 rw[d,G0a,e,G4k]
 simp only[G6f]
theorem K2f(a:Word->Option Bool)(l:List Word)(g:l.length<=1000000)(h:∀c∈l,a c=some (!decide (c.kind_=4)&&rW c)):J2c a l=some (!l.all λc=>!decide (c.kind_=4)&&rW c):=by
 rw[J2c,J7d,Q1e (body:=Z9s l a) l (λu i k=>(F261 a u).bind λr=>bif r then some i else k) (some (-1)) (λ_ _=>rfl) (by omega)]
 obtain⟨r,d,e⟩:=Q6m (λc:Word=>!(!decide (c.kind_=4)&&rW c)) (F261 a) l 0 (λx f=>by rw[F261,h x f];rfl)
 rw[show((0:Nat):Int)=0 from rfl]at d
 rw[d,G0a,e,G4k]
 simp only[G6f]
theorem J4n(a:Word->Option Bool)(l:List Word)(g:l.length<=1000000)(h:∀c∈l,F234 a c=some (rW c)):F207 a l=some (l.all rW):=by
 rw[F207,F232,F259,Q1e (body:=J9x l a) l (λu i k=>(F233 a u).bind λr=>bif r then some i else k) (some (-1)) (λ_ _=>rfl) (by omega)]
 obtain⟨r,d,e⟩:=Q6m (λc=>!rW c) (F233 a) l 0 (λx f=>by rw[F233,h x f];rfl)
 rw[show((0:Nat):Int)=0 from rfl]at d
 rw[d,G0a,G0a,e,G4k]
 simp only[G6f]
theorem K2h(a:Word->Option Bool)(l:List Redir)(g:l.length<=1000000)(h:∀c∈l,F237 a c=some (rR c)):F209 a l=some (l.all rR):=by
 rw[F209,F235,F262,Q1e (body:=J9w l a) l (λu i k=>(F236 a u).bind λr=>bif r then some i else k) (some (-1)) (λ_ _=>rfl) (by omega)]
 obtain⟨r,d,e⟩:=Q6m (λc=>!rR c) (F236 a) l 0 (λx f=>by rw[F236,h x f];rfl)
 rw[show((0:Nat):Int)=0 from rfl]at d
 rw[d,G0a,G0a,e,G4k]
 simp only[G6f]
theorem K6b(a:Cmd->Option Bool)(d:Word->Option Bool)(l:List Cmd)(m:l.length<=1000000)(h:∀c∈l,F212 a d c=some (Q5p c)):X6a a d l=some (!l.all Q5p):=by
 rw[X6a,K1q,Q1e (body:=J4h l a d) l (λu i k=>(F211 a d u).bind λr=>bif r then some i else k) (some (-1)) (λ_ _=>rfl) (by omega)]
 obtain⟨r,e,f⟩:=Q6m (λc=>!Q5p c) (F211 a d) l 0 (λx g=>by rw[F211,h x g];rfl)
 rw[show((0:Nat):Int)=0 from rfl]at e
 rw[e,G0a,f,G4k]
 simp only[G6f]
theorem V3n(a:Cmd->Option Bool)(l:List Cmd)(h:∀c∈l,a c=some (lvl 1 c.kind_&&rC c)):F208 a l=some (oneB l):=by
 rw[F208]
 rcases l with _|⟨u,_|⟨v,r⟩⟩
 ·rfl
 ·show(some u).bind _=_
  rw[G0a]
  show(a u).bind _=_
  rw[h u (by simp)]
  rfl
 rw[show decide (((u::v::r).length:Int)=1)=false from G0b (by simp;omega)]
 rfl
theorem V3e(w:Word):F264 w=some (Z8e w):=by
 rw[F264,Z8e]
 have a:decide ((w.words_.length:Int)=0)=decide (w.words_.length=0):=G1e.2 (by omega)
 have d:decide ((w.cmd_.length:Int)=0)=decide (w.cmd_.length=0):=G1e.2 (by omega)
 have e:decide (w.words_.length+w.cmd_.length=0)=(decide (w.words_.length=0)&&decide (w.cmd_.length=0)):=by
  rw[<-G8x]
  exact G1e.2 (by omega)
 rw[a,d,e,G6l]
theorem V4b(t:Str)(f:t.length<=1000000):F108 t [10]=some (J6d t):=by
 rw[F108,F155]
 cases d:t with
 | nil=>rfl
 | cons a s=>
   rw[<-d]
   have g:0<t.length:=by rw[d];simp
   have e:decide (((([10]:Str).length:Nat):Int)<=(t.length:Int))=true:=G0h (by simp;omega)
   rw[e,Q0f,Q0j (by simp;omega) (by simp;omega),Q0n,if_pos (by simp;omega),G0a,G0a,G0x]
   rw[J6d]
   congr 1
   refine G1e.2 ?_
   rw[show((t.length:Int)-((([10]:Str).length:Nat):Int)).toNat=t.length-1 by first|(simp;done)|(simp;omega),show((t.length:Int)).toNat-(t.length-1)=1 by first|(simp;done)|(simp;omega)]
   rw[G5o,Q1v (show t.length-1<t.length by omega),G0f (by omega),G3w,G6k]
   simp
theorem K7d:∀ (q:Str) (n:Nat),((decide (n=q.length)&&q.all mkB)&&!q.contains 49)=decide (q=List.replicate n 48)
 | [],0=>rfl
 | [],n+1=>by simp[List.replicate]
 | a::q,0=>by simp
 | a::q,n+1=>by
   have f:=K7d q n
   have e:decide (n+1=(a::q).length)=decide (n=q.length):=G1e.2 (by simp)
   rw[e,G2m,G3j,G3g]
   by_cases h:a=48
   ·subst h
    have:decide ((48:UInt8)::q=48::List.replicate n 48)=decide (q=List.replicate n 48):=G1e.2 (by simp)
    rw[this,<-f]
    rfl
   have:decide (a::q=48::List.replicate n 48)=false:=G0b (by simp[h])
   rw[this]
   by_cases d:a=49
   ·subst d
    cases decide (n=q.length)<;>cases q.all mkB<;>rfl
   have g:mkB a=false:=by
    have l:=Q4v a 48
    have m:=Q4v a 49
    rw[mkB,B]
    rw[show(48:Int)=(((48:UInt8).toNat:Nat):Int) from rfl,show(49:Int)=(((49:UInt8).toNat:Nat):Int) from rfl,l,m,G0b h,G0b d]
    rfl
   rw[g]
   cases decide (n=q.length)<;>rfl
theorem V3h(e:Word->Option Bool)(d:Redir)(f:F234 e d.word_=some (rW d.word_))(g:d.word_.text_.length<=1000000)(l:d.word_.quoted_.length<=1000000):F237 e d=some (rR d):=by
 rw[F237,K3i]
 simp only[Q3t]
 have m:(((((decide (d.fd_<0)||decide (64<=d.fd_))||decide (d.from_<0))||decide (64<=d.from_))||(!decide (d.kind_=4)&&d.raw_))||(!decide (d.kind_=5)&&!decide (d.from_=0)))=(((((decide (d.fd_<0)||decide (64<=d.fd_))||decide (d.from_<0))||decide (64<=d.from_))||(!decide (d.kind_=5)&&!decide (d.from_=0)))||(!decide (d.kind_=4)&&d.raw_)):=by
  rw[G9c,Bool.or_comm (!decide (d.kind_=4)&&d.raw_),<-G9c]
 rw[m]
 cases((((((decide (d.fd_<0)||decide (64<=d.fd_))||decide (d.from_<0))||decide (64<=d.from_))||(!decide (d.kind_=5)&&!decide (d.from_=0)))||(!decide (d.kind_=4)&&d.raw_)))with
 | true=>rfl
 | false=>
   rw[Q0a,Q0a]
   cases(decide (d.kind_=1)||(decide (d.kind_=2)||decide (d.kind_=3)))with
   | true=>rw[Q0b,Q0b,f];rfl
   | false=>
     rw[Q0a,Q0a]
     by_cases a:d.kind_=4
     ·have o:(decide (d.kind_=5)||decide (d.kind_=6))=false:=by rw[a];rfl
      rw[G0h a,Q0b,o,Q0a,Q0b,J8p]
      have p:∀b:Bool,Q0e b (F108 d.word_.text_ [10])=some (b&&J6d d.word_.text_):=λb=>by
       cases b
       ·rfl
       rw[Q0f,V4b _ g,G0x]
      rw[p,G0a]
      have q:decide ((d.word_.words_.length:Int)=0)=decide (d.word_.words_.length=0):=G1e.2 (by omega)
      have t:decide ((d.word_.cmd_.length:Int)=0)=decide (d.word_.cmd_.length=0):=G1e.2 (by omega)
      have u:decide (d.word_.words_.length+d.word_.cmd_.length=0)=(decide (d.word_.words_.length=0)&&decide (d.word_.cmd_.length=0)):=by
       rw[<-G8x]
       exact G1e.2 (by omega)
      rw[q,t,u,<-K7d]
      cases(decide (d.fd_=0)&&decide (d.word_.kind_=1))with
      | false=>rfl
      | true=>
        rw[G0x,G0x]
        cases decide (d.word_.words_.length=0)with
        | false=>
          cases(((decide (d.word_.text_.length=d.word_.quoted_.length)&&d.word_.quoted_.all mkB)&&!d.word_.quoted_.contains 49))<;>rfl
        | true=>
          rw[G0x]
          cases decide (d.word_.cmd_.length=0)with
          | false=>
            cases(((decide (d.word_.text_.length=d.word_.quoted_.length)&&d.word_.quoted_.all mkB)&&!d.word_.quoted_.contains 49))<;>rfl
          | true=>
            rw[Q0f,K2c _ l,G0a,G0x,G2x]
            cases(decide (d.word_.text_.length=d.word_.quoted_.length)&&d.word_.quoted_.all mkB)with
            | false=>rfl
            | true=>
              rw[Q0f,Q4j,G0a,J6f,G0x]
              cases d.word_.quoted_.contains 49<;>cases decide (d.word_.text_=[])<;>cases J6d d.word_.text_<;>rfl
     rw[G0b a,Q0a]
     cases(decide (d.kind_=5)||decide (d.kind_=6))with
     | true=>rw[Q0b,Q0b,V3e];rfl
     | false=>rfl
theorem V3i(a:Word->Option Bool)(w:Word)(e:w.words_.length<=1000000)(f:a w=some (!decide (w.kind_=4)&&rW w))(h:∀x∈w.words_,a x=some (!decide (x.kind_=4)&&rW x)):F234 a w=some (rW w):=by
 rw[F234]
 by_cases d:w.kind_=4
 ·rw[G0h d,G0m,Q0a,X7j,d]
  show _=some ((w.words_.all λx=>!decide (x.kind_=4))&&((((decide (w.text_=[])&&decide (w.quoted_=[]))&&decide (1<w.words_.length))&&decide (w.cmd_.length=0))&&w.words_.all rW))
  have g:decide ((w.cmd_.length:Int)=0)=decide (w.cmd_.length=0):=G1e.2 (by omega)
  have l:decide (2<=(w.words_.length:Int))=decide (1<w.words_.length):=G1e.2 (by omega)
  rw[g,l,K2f a _ e h,J9i]
  cases decide (w.text_=[])<;>cases decide (w.quoted_=[])<;>cases decide (w.cmd_.length=0)<;>cases decide (1<w.words_.length)<;>cases(w.words_.all λx=>!decide (x.kind_=4))<;>cases w.words_.all rW<;>rfl
 rw[G0b d,G0o,Q0b,f,G0b d]
 rfl
theorem V5z{k:Int}(h:k≠14):lvl 4 k=lvl 3 k:=by
 rw[lvl,lvl,lev,G0b h]
 generalize (decide (k=1)||(decide (k=2)||(decide (k=7)||(decide (k=8)||(decide (k=9)||(decide (k=10)||(decide (k=11)||(decide (k=12)||(decide (k=13)||(decide (k=15)||(decide (k=16)||decide (k=17))))))))))))=a
 generalize decide (k=3)=b
 generalize (decide (k=5)||decide (k=6))=c
 cases a<;>cases b<;>cases c<;>rfl
theorem V6a{k:Int}(h:(decide (k=5)||decide (k=6))=false):lvl 3 k=lvl 2 k:=by
 rw[lvl,lvl,lev,h]
 generalize (decide (k=1)||(decide (k=2)||(decide (k=7)||(decide (k=8)||(decide (k=9)||(decide (k=10)||(decide (k=11)||(decide (k=12)||(decide (k=13)||(decide (k=15)||(decide (k=16)||decide (k=17))))))))))))=a
 generalize decide (k=3)=b
 generalize decide (k=14)=c
 cases a<;>cases b<;>cases c<;>rfl
theorem V6b{k:Int}(h:k≠3):lvl 2 k=lvl 1 k:=by
 rw[lvl,lvl,lev,G0b h]
 generalize (decide (k=1)||(decide (k=2)||(decide (k=7)||(decide (k=8)||(decide (k=9)||(decide (k=10)||(decide (k=11)||(decide (k=12)||(decide (k=13)||(decide (k=15)||(decide (k=16)||decide (k=17))))))))))))=a
 generalize decide (k=14)=b
 generalize (decide (k=5)||decide (k=6))=c
 cases a<;>cases b<;>cases c<;>rfl
theorem J0h{N r0 w0 X A R P:Bool}(a:(w0&&A)=w0)(d:(r0&&R)=r0):(((((N&&r0)&&(w0&&X))&&A)&&R)&&P)=((N&&((false||w0)&&(false||r0)))&&(X&&P)):=by
 revert a d
 cases N<;>cases r0<;>cases w0<;>cases X<;>cases A<;>cases R<;>cases P<;>decide
theorem K5d{N r0 w0 Y A R P:Bool}(a:(r0&&R)=r0):(((((N&&r0)&&Y)&&A)&&R)&&P)=((((N&&((true||w0)&&(false||r0)))&&Y)&&A)&&P):=by
 revert a
 cases N<;>cases r0<;>cases w0<;>cases Y<;>cases A<;>cases R<;>cases P<;>decide
section
variable (c:Cmd)
theorem Y5a(hk:c.kind_=14):rC c=(shpB c false false false&&(decide (c.kids_.length=1)&&c.kids_.all λc=>lvl 3 c.kind_&&rC c)):=by
 rw[Q7o,hk,shU _ _ _ _ 14 (by decide),shpB]
 exact J0h (all0 _ _) (all0 _ _)
theorem Y4w(hk:c.kind_=5\/c.kind_=6):rC c=(shpB c false false false&&(decide (c.kids_.length=2)&&rAnd c.kids_)):=by
 rcases hk with hk|hk
 ·rw[Q7o,hk,shU _ _ _ _ 5 (by decide),shpB]
  exact J0h (all0 _ _) (all0 _ _)
 rw[Q7o,hk,shU _ _ _ _ 6 (by decide),shpB]
 exact J0h (all0 _ _) (all0 _ _)
theorem rC_3(hk:c.kind_=3):rC c=(shpB c false false false&&(decide (2<=c.kids_.length)&&c.kids_.all λc=>lvl 1 c.kind_&&rC c)):=by
 rw[Q7o,hk,shU _ _ _ _ 3 (by decide),shpB]
 exact J0h (all0 _ _) (all0 _ _)
theorem V4y(hk:c.kind_=8\/c.kind_=11):rC c=(shpB c false false false&&(decide (c.kids_.length=2)&&rIf c.kids_)):=by
 rcases hk with hk|hk
 ·rw[Q7o,hk,shU _ _ _ _ 8 (by decide),shpB]
  exact J0h (all0 _ _) (all0 _ _)
 rw[Q7o,hk,shU _ _ _ _ 11 (by decide),shpB]
 exact J0h (all0 _ _) (all0 _ _)
theorem rC_7(hk:c.kind_=7\/c.kind_=13\/c.kind_=9):rC c=(shpB c false false false&&oneB c.kids_):=by
 rw[<-X7w]
 rcases hk with hk|hk|hk
 ·rw[Q7o,hk,shU _ _ _ _ 7 (by decide),shpB]
  exact J0h (all0 _ _) (all0 _ _)
 ·rw[Q7o,hk,shU _ _ _ _ 13 (by decide),shpB]
  exact J0h (all0 _ _) (all0 _ _)
 rw[Q7o,hk,shU _ _ _ _ 9 (by decide),shpB]
 exact J0h (all0 _ _) (all0 _ _)
theorem rC_2(hk:c.kind_=2):rC c=(((shpB c true true false&&decide (c.words_.length=1))&&c.words_.all rW)&&(decide (c.kids_.length=0)||oneB c.kids_)):=by
 rw[<-V5m,Q7o,hk,sh2,shpB,<-G6l (nameB c.name_&&_)]
 have h:=K5d (N:=nameB c.name_) (w0:=decide (c.words_.length=0)) (Y:=decide (c.words_.length=1)&&decide (c.kids_.length<=1)) (A:=c.words_.all rW) (P:=c.kids_.all λc=>lvl 1 c.kind_&&rC c) (all0 rR c.redirs_)
 show(((((nameB c.name_&&decide (c.redirs_.length=0))&&decide (c.words_.length=1))&&decide (c.kids_.length<=1))&&c.words_.all rW)&&c.redirs_.all rR&&c.kids_.all λc=>lvl 1 c.kind_&&rC c)=_
 rw[G6l (nameB c.name_&&decide (c.redirs_.length=0)),h]
 show _=((((nameB c.name_&&_)&&decide (c.words_.length=1))&&c.words_.all rW)&&_)
 cases decide (c.words_.length=1)<;>cases decide (c.kids_.length<=1)<;>cases c.words_.all rW<;>simp
theorem Y5b(hk:c.kind_=10):rC c=((shpB c true true false&&c.words_.all rW)&&oneB c.kids_):=by
 rw[<-X7w,Q7o,hk,sh10,shpB]
 have h:=K5d (N:=nameB c.name_) (w0:=decide (c.words_.length=0)) (Y:=decide (c.kids_.length=1)) (A:=c.words_.all rW) (P:=c.kids_.all λc=>lvl 1 c.kind_&&rC c) (all0 rR c.redirs_)
 refine h.trans ?_
 show _=(((nameB c.name_&&_)&&c.words_.all rW)&&_)
 cases decide (c.kids_.length=1)<;>cases c.words_.all rW<;>simp
theorem Y4x(hk:c.kind_=17):rC c=(((shpB c false true false&&decide (c.words_.length=1))&&c.words_.all rW)&&c.kids_.all Q5p):=by
 rw[Q7o,hk,shU _ _ _ _ 17 (by decide),shpB]
 exact K5d (N:=decide (c.name_=[])) (w0:=decide (c.words_.length=0)) (Y:=decide (c.words_.length=1)) (all0 rR c.redirs_)
theorem Y4z(hk:c.kind_=15):rC c=(shpB c true false false&&c.kids_.all λc=>lvl 4 c.kind_&&rC c):=by
 rw[Q7o,hk,sh15,shpB]
 have h:=J0h (N:=nameB c.name_) (X:=true) (P:=c.kids_.all λc=>lvl 4 c.kind_&&rC c) (all0 rW c.words_) (all0 rR c.redirs_)
 rw[G2x,G0x]at h
 exact h
theorem V4z(hk:c.kind_=12):rC c=((shpB c false false true&&c.kids_.all λc=>lvl 4 c.kind_&&rC c)&&c.redirs_.all rR):=by
 rw[Q7o,hk,sh12,shpB]
 show((((decide (c.name_=[])&&decide (c.words_.length=0))&&c.words_.all rW)&&c.redirs_.all rR)&&c.kids_.all λc=>lvl 4 c.kind_&&rC c)=((decide (c.name_=[])&&((false||decide (c.words_.length=0))&&true)&&c.kids_.all λc=>lvl 4 c.kind_&&rC c)&&c.redirs_.all rR)
 have h:=all0 rW c.words_
 rw[G6l (decide (c.name_=[])),h]
 cases decide (c.name_=[])<;>cases decide (c.words_.length=0)<;>cases c.redirs_.all rR<;>cases(c.kids_.all λc=>lvl 4 c.kind_&&rC c)<;>rfl
theorem Y4y(hk:c.kind_=16):rC c=(((shpB c false true false&&decide (0<c.words_.length))&&decide (c.kids_.length=0))&&c.words_.all rW):=by
 rw[Q7o,hk,shU _ _ _ _ 16 (by decide),shpB]
 have h:=K5d (N:=decide (c.name_=[])) (w0:=decide (c.words_.length=0)) (Y:=decide (0<c.words_.length)&&decide (c.kids_.length=0)) (A:=c.words_.all rW) (P:=c.kids_.all λc=>lvl 1 c.kind_&&rC c) (all0 rR c.redirs_)
 refine h.trans ?_
 have a:=all0 (λc:Cmd=>lvl 1 c.kind_&&rC c) c.kids_
 revert a
 show _->_=(((decide (c.name_=[])&&_)&&_&&_)&&_)
 cases decide (0<c.words_.length)<;>cases decide (c.kids_.length=0)<;>cases c.words_.all rW<;>cases(c.kids_.all λc=>lvl 1 c.kind_&&rC c)<;>simp
theorem rC_1(hk:c.kind_=1):rC c=((decide (c.name_=[])&&decide (c.kids_.length=0))&&(((decide (0<c.words_.length+c.redirs_.length)&&c.words_.all rW)&&c.redirs_.all rR)&&(decide (c.words_.length=0)||!Q5u c.words_))):=by
 rw[Q7o,hk,sh1]
 show((((decide (c.name_=[])&&(decide (0<c.words_.length+c.redirs_.length)&&decide (c.kids_.length=0)))&&c.words_.all rW)&&c.redirs_.all rR)&&(decide (c.words_.length=0)||!Q5u c.words_))=_
 cases decide (c.name_=[])<;>cases decide (c.kids_.length=0)<;>cases decide (0<c.words_.length+c.redirs_.length)<;>cases c.words_.all rW<;>cases c.redirs_.all rR<;>cases(decide (c.words_.length=0)||!Q5u c.words_)<;>rfl
end
theorem K8m(a:Cmd->Option Bool)(c:Cmd)(d:c.name_.length<=1000000)(e:a c=some (lvl 3 c.kind_&&rC c))(h:∀x∈c.kids_,a x=some (lvl 3 x.kind_&&rC x)):F64 a c=some (lvl 4 c.kind_&&rC c):=by
 rw[F64]
 by_cases hk:c.kind_=14
 ·rw[G0h hk,G0m,Q0a,J1w _ _ _ _ d,G0a,Y5a c hk,hk]
  show _=some (true&&_)
  rw[G0x]
  cases shpB c false false false with
  | false=>rfl
  | true=>
    rw[G0x]
    rcases hx:c.kids_ with _|⟨u,_|⟨v,r⟩⟩
    ·rfl
    ·rw[hx]at h
     show(some u).bind _=_
     rw[G0a]
     show(a u).bind _=_
     rw[h u (by simp),G2m,G4z,G2x]
     rfl
    rw[show decide (((u::v::r).length:Int)=1)=false from G0b (by simp;omega),show decide ((u::v::r).length=1)=false from G0b (by simp)]
    rfl
 rw[G0b hk,G0o,Q0b,e,V5z hk]
 rfl
theorem K2i(a:Cmd->Option Bool)(c:Cmd)(d:c.name_.length<=1000000)(f:c.kids_.length<=1000000)(g:a c=some (lvl 1 c.kind_&&rC c))(h:∀x∈c.kids_,a x=some (lvl 1 x.kind_&&rC x)):F143 a c=some (lvl 2 c.kind_&&rC c):=by
 rw[F143]
 by_cases hk:c.kind_=3
 ·rw[G0h hk,G0m,Q0a,J1w _ _ _ _ d,G0a,rC_3 c hk,hk]
  show _=some (true&&_)
  have e:decide (2<=(c.kids_.length:Int))=decide (2<=c.kids_.length):=G1e.2 (by omega)
  rw[G0x,e,K6c a _ f h]
  cases shpB c false false false<;>cases decide (2<=c.kids_.length)<;>cases(c.kids_.all λc=>lvl 1 c.kind_&&rC c)<;>rfl
 rw[G0b hk,G0o,Q0b,g,V6b hk]
 rfl
theorem Y3c(f d:Cmd->Option Bool)(c:Cmd)(g:c.name_.length<=1000000)(p:c.kids_.length<=1000000)(q:d c=some (lvl 1 c.kind_&&rC c))(h:∀x∈c.kids_,d x=some (lvl 1 x.kind_&&rC x))(l:∀x∈c.kids_,f x=some (lvl 3 x.kind_&&rC x))
 (m:∀x∈c.kids_,x.name_.length<=1000000/\x.kids_.length<=1000000/\∀y∈x.kids_,d y=some (lvl 1 y.kind_&&rC y)):F98 f d c=some (lvl 3 c.kind_&&rC c):=by
 rw[F98]
 cases hk:(decide (c.kind_=5)||decide (c.kind_=6))with
 | false=>
   have:(!decide (c.kind_=5)&&!decide (c.kind_=6))=true:=by rw[<-G6p,hk];rfl
   rw[this,Q0b,K2i d c g p q h,V6a hk]
   rfl
 | true=>
   have:(!decide (c.kind_=5)&&!decide (c.kind_=6))=false:=by rw[<-G6p,hk];rfl
   rw[this,Q0a,J1w _ _ _ _ g,G0a]
   simp only[G2d,G0l]at hk
   rw[Y4w c hk]
   have t:lvl 3 c.kind_=true:=by rcases hk with hk|hk<;>(rw[hk];rfl)
   rw[t,G0x]
   cases shpB c false false false with
   | false=>rfl
   | true=>
     rw[G0x,G0x]
     by_cases o:c.kids_.length=2
     ·obtain⟨a,b,e⟩:=two o
      rw[e]at h l m |-
      show(some a).bind _=some (true&&rAnd [a,b])
      rw[G0a]
      show(f a).bind _=_
      rw[l a (by simp),G0a,rAnd,Q3m,G2m,G4z,G2x]
      cases(lvl 3 a.kind_&&rC a)with
      | false=>rfl
      | true=>
        show(some b).bind _=_
        rw[G0a]
        show(F143 d b).bind _=_
        have hb:=m b (by simp)
        rw[K2i d b hb.1 hb.2.1 (h b (by simp)) hb.2.2]
        rfl
     have e:decide ((c.kids_.length:Int)=2)=false:=G0b (by omega)
     rw[e,G0b o]
     rfl
theorem V3f(a:Cmd->Option Bool)(d:Word->Option Bool)(w:Word)(A:w.text_.length<=1000000)(hq:w.quoted_.length<=1000000)(C:w.words_.length+w.cmd_.length<=1000000)(m:∀x∈w.words_,F234 d x=some (rW x))(o:∀x∈w.cmd_,F64 a x=some (lvl 4 x.kind_&&rC x)):
 F260 a d w=some (!decide (w.kind_=4)&&rW w):=by
 rw[F260,J4r _ (by omega),G0a,X7j]
 have p:decide ((w.words_.length:Int)=0)=decide (w.words_.length=0):=G1e.2 (by omega)
 have q:decide ((w.cmd_.length:Int)=0)=decide (w.cmd_.length=0):=G1e.2 (by omega)
 have t:decide (w.words_.length+w.cmd_.length=0)=(decide (w.words_.length=0)&&decide (w.cmd_.length=0)):=by
  rw[<-G8x]
  exact G1e.2 (by omega)
 have u:decide (1<=(w.words_.length:Int))=decide (0<w.words_.length):=G1e.2 (by omega)
 rw[p,q,t,u,V3d w hq,J4n d w.words_ (by omega) m,J7c a w.cmd_ (by omega) o]
 simp only[Q3t]
 by_cases e:w.kind_=1
 ·rw[e]
  show _=some (Z6a w.text_ w.quoted_&&_)
  cases decide (w.words_.length=0)<;>cases decide (w.cmd_.length=0)<;>cases Z6a w.text_ w.quoted_<;>rfl
 rw[G0b e,Q0a,Q0a]
 cases y:(decide (w.kind_=2)||decide (w.kind_=3))with
 | true=>
   have z:decide (w.kind_=4)=false:=by
    simp only[G2d,G0l]at y
    exact G0b (by omega)
   rw[Q0b,Q0b,z]
   cases decide (w.words_.length=0)<;>cases decide (w.cmd_.length=0)<;>cases nameB w.text_<;>cases decide (w.quoted_=[])<;>rfl
 | false=>
   rw[Q0a,Q0a]
   by_cases f:w.kind_=7
   ·rw[f]
    show _=some ((((nameB w.text_&&decide (w.quoted_=[]))&&decide (0<w.words_.length))&&decide (w.cmd_.length=0))&&w.words_.all rW)
    cases decide (0<w.words_.length)<;>cases decide (w.cmd_.length=0)<;>cases nameB w.text_<;>cases decide (w.quoted_=[])<;>cases w.words_.all rW<;>rfl
   rw[G0b f,Q0a,Q0a]
   by_cases g:w.kind_=5
   ·rw[g]
    show _=some (((decide (w.text_=[])&&decide (w.quoted_=[]))&&decide (w.cmd_.length=0))&&w.words_.all rW)
    cases decide (w.cmd_.length=0)<;>cases decide (w.text_=[])<;>cases decide (w.quoted_=[])<;>cases w.words_.all rW<;>rfl
   rw[G0b g,Q0a,Q0a]
   by_cases l:w.kind_=6
   ·rw[l]
    show _=some (((decide (w.text_=[])&&decide (w.quoted_=[]))&&decide (w.words_.length=0))&&w.cmd_.all λc=>lvl 4 c.kind_&&rC c)
    cases decide (w.words_.length=0)<;>cases decide (w.text_=[])<;>cases decide (w.quoted_=[])<;>cases(w.cmd_.all λc=>lvl 4 c.kind_&&rC c)<;>rfl
   rw[G0b l,Q0a,Q0a]
   cases decide (w.kind_=4)<;>rfl
theorem V3m(a:Cmd->Option Bool)(c:Cmd)(d:c.name_.length<=1000000)(f:c.kids_.length<=1000000)(h:∀x∈c.kids_,F64 a x=some (lvl 4 x.kind_&&rC x)):F210 a c=some ((decide (c.kind_=12)&&decide (c.redirs_.length=0))&&rC c):=by
 rw[F210]
 by_cases hk:c.kind_=12
 ·rw[G0h hk,Q0f,J1w _ _ _ _ d,G0a,G0x,G0x,V4z c hk]
  have e:shpB c false false false=(decide (c.redirs_.length=0)&&shpB c false false true):=by
   rw[shpB,shpB]
   cases decide (c.name_=[])<;>cases decide (c.words_.length=0)<;>cases decide (c.redirs_.length=0)<;>rfl
  rw[e]
  cases g:decide (c.redirs_.length=0)with
  | false=>rfl
  | true=>
    have:c.redirs_.all rR=true:=by
     rw[G0u (G3e g)];rfl
    rw[this,G2x,G0x,G0x]
    exact Q3z λ_=>J7c a _ f h
 rw[G0b hk]
 rfl
theorem V3l(a:Cmd->Option Bool)(d:Word->Option Bool)(c:Cmd)(f:c.name_.length<=1000000)(g:c.kids_.length<=1000000)(l:c.words_.length<=1000000)(h:∀x∈c.kids_,F64 a x=some (lvl 4 x.kind_&&rC x))(m:∀x∈c.words_,F234 d x=some (rW x)):F212 a d c=some (Q5p c):=by
 rw[F212,J2v]
 cases decide (c.kind_=18)with
 | false=>rfl
 | true=>
   rw[Q0f,J1w _ _ _ _ f,G0a,G0x,G0x,J4n d _ l m,J7c a _ g h]
   have e:shpB c false true false=(decide (c.name_=[])&&decide (c.redirs_.length=0)):=by
    rw[shpB]
    cases decide (c.name_=[])<;>cases decide (c.words_.length=0)<;>cases decide (c.redirs_.length=0)<;>rfl
   have o:decide (1<=(c.words_.length:Int))=!decide (c.words_.length=0):=by
    by_cases h:c.words_.length=0
    ·rw[G0h h,G0b (by omega)];rfl
    rw[G0b h,G0h (by omega)];rfl
   rw[e,o]
   cases decide (c.name_=[])<;>cases decide (c.redirs_.length=0)<;>cases decide (c.words_.length=0)<;>cases c.words_.all rW<;>cases(c.kids_.all λc=>lvl 4 c.kind_&&rC c)<;>rfl
theorem J2d(k:Int)(t q:Str)(ws:List Word)(cs:List Cmd)(a:t.length<=1000000):Z4p (k,t,q,ws,cs)=some (!((decide (k=1)&&keyB t)&&!Q2k q)):=by
 rw[Z4p]
 cases decide (k=1)with
 | false=>rfl
 | true=>
   rw[Q0f,Q4j,G0a,J6f,G0x,G0x]
   rw[show q.contains 49=Q2k q from rfl]
   cases Q2k q with
   | true=>
     show some _=_
     cases keyB t<;>rfl
   | false=>
     rw[G0o,Q0f,K2j _ (by omega),G0a,G0x,V0u,G2x]
theorem V3k(a:Word->Option Bool)(c:Cmd)(o:c.words_.length+c.redirs_.length<=1000000)(p:∀x∈c.words_,F234 a x=some (rW x))(q:∀x∈c.redirs_,F237 a x=some (rR x))(f:∀x∈c.words_,x.text_.length<=1000000/\∀y∈x.words_,y.text_.length<=1000000):
 F213 a c=some (((decide (0<c.words_.length+c.redirs_.length)&&c.words_.all rW)&&c.redirs_.all rR)&&(decide (c.words_.length=0)||!Q5u c.words_)):=by
 rw[F213,sum0 o,J4n a _ (by omega) p,K2h a _ (by omega) q]
 have t:decide (0<c.words_.length+c.redirs_.length)=!decide (c.words_.length+c.redirs_.length=0):=by
  by_cases h:c.words_.length+c.redirs_.length=0
  ·rw[G0h h,G0b (by omega)];rfl
  rw[G0b h,G0h (by omega)];rfl
 have z:decide ((c.words_.length:Int)=0)=decide (c.words_.length=0):=G1e.2 (by omega)
 rw[t,z]
 cases decide (c.words_.length+c.redirs_.length=0)with
 | true=>rfl
 | false=>
   rw[G0o,Q0f,G0a,G0x,G2k]
   cases d:c.words_.all rW with
   | false=>rfl
   | true=>
     rw[G0m,G0o,Q0f,G0a,G2k,G0x]
     cases c.redirs_.all rR with
     | false=>rfl
     | true=>
       rw[G0m,Q0a,G0x]
       cases A:c.words_ with
       | nil=>rfl
       | cons u r=>
         rw[A]at d f
         rw[G2m,G0d]at d
         have g:=f u (by simp)
         rw[show decide ((u::r).length=0)=false from G0b (by simp),Q0a,Z2o,G0a,Q5u,G2k]
         by_cases e:u.kind_=4
         ·have l:=X7i d.1 e
          cases m:u.words_ with
          | nil=>rw[m]at l;simp at l
          | cons y s=>
            rw[G0h e,Q0b,Q0b,Z2o,G0a,J2d _ _ _ _ _ (g.2 y (by rw[m];simp))]
            rfl
         rw[G0b e,Q0a,Q0a,J2d _ _ _ _ _ g.1]
         rfl
theorem V3t(g E:Cmd->Option Bool)(f:Word->Option Bool)(c:Cmd)(L:c.name_.length<=1000000)(M:c.words_.length+c.redirs_.length<=1000000)(H:c.kids_.length<=1000000)
 (I:∀x∈c.words_,F234 f x=some (rW x)) (J:∀x∈c.redirs_,F237 f x=some (rR x)) (O:∀x∈c.words_,x.text_.length<=1000000/\∀y∈x.words_,y.text_.length<=1000000)
 (F:∀x∈c.kids_,E x=some (lvl 1 x.kind_&&rC x)) (Q:∀x∈c.kids_,F64 g x=some (lvl 4 x.kind_&&rC x)) (K:∀x∈c.kids_,F210 g x=some ((decide (x.kind_=12)&&decide (x.redirs_.length=0))&&rC x)) (U:∀x∈c.kids_,F212 g f x=some (Q5p x)):
 F182 g E f c=some (lvl 1 c.kind_&&rC c):=by
 rw[F182]
 simp only[Q3t]
 have d:=λn w r=>J1w c n w r L
 have V:=J4n f c.words_ (by omega) I
 have W:=J7c g c.kids_ H Q
 have X:=V3n E c.kids_ F
 have Y:decide ((c.words_.length:Int)=1)=decide (c.words_.length=1):=G1e.2 (by omega)
 have aa:decide ((c.kids_.length:Int)=0)=decide (c.kids_.length=0):=G1e.2 (by omega)
 have ac:decide ((c.kids_.length:Int)=2)=decide (c.kids_.length=2):=G1e.2 (by omega)
 have ad:decide (1<=(c.words_.length:Int))=decide (0<c.words_.length):=G1e.2 (by omega)
 rw[Y,aa,ac,ad,V,W,X]
 by_cases o:c.kind_=2
 ·rw[G0h o,Q0b,d,G0a,rC_2 c o,o]
  show _=some (true&&_)
  cases shpB c true true false<;>cases decide (c.words_.length=1)<;>cases c.words_.all rW<;>cases decide (c.kids_.length=0)<;>cases oneB c.kids_<;>rfl
 rw[G0b o,Q0a]
 cases l:(decide (c.kind_=7)||(decide (c.kind_=13)||decide (c.kind_=9)))with
 | true=>
   simp only[G2d,G0l]at l
   have p:lvl 1 c.kind_=true:=by rcases l with h|h|h<;>(rw[h];rfl)
   rw[Q0b,d,G0a,rC_7 c l,p]
   cases shpB c false false false<;>cases oneB c.kids_<;>rfl
 | false=>
 rw[Q0a]
 by_cases q:c.kind_=12
 ·rw[G0h q,Q0b,d,G0a,K2h f _ (by omega) J,V4z c q,q]
  show _=some (true&&_)
  cases shpB c false false true<;>cases(c.kids_.all λc=>lvl 4 c.kind_&&rC c)<;>cases c.redirs_.all rR<;>rfl
 rw[G0b q,Q0a]
 cases m:(decide (c.kind_=8)||decide (c.kind_=11))with
 | true=>
   simp only[G2d,G0l]at m
   have p:lvl 1 c.kind_=true:=by rcases m with h|h<;>(rw[h];rfl)
   rw[Q0b,d,G0a,V4y c m,p,G0x]
   cases shpB c false false false with
   | false=>rfl
   | true=>
     rw[G0x,G0x]
     by_cases hk:c.kids_.length=2
     ·obtain⟨a,b,e⟩:=two hk
      rw[e]at F K |-
      show(some a).bind _=some (true&&rIf [a,b])
      rw[G0a]
      show(F210 g a).bind _=_
      rw[K a (by simp),G0a,rIf,Q3m,G2m,G4z,G2x]
      cases((decide (a.kind_=12)&&decide (a.redirs_.length=0))&&rC a)with
      | false=>rfl
      | true=>
        show(some b).bind _=_
        rw[G0a]
        show(E b).bind _=_
        rw[F b (by simp)]
        rfl
     rw[G0b hk]
     rfl
 | false=>
 rw[Q0a]
 by_cases t:c.kind_=10
 ·rw[G0h t,Q0b,d,G0a,Y5b c t,t]
  show _=some (true&&_)
  cases shpB c true true false<;>cases c.words_.all rW<;>cases oneB c.kids_<;>rfl
 rw[G0b t,Q0a]
 by_cases u:c.kind_=17
 ·rw[G0h u,Q0b,d,G0a,Y4x c u,u,K6b g f _ H U]
  show _=some (true&&_)
  cases shpB c false true false<;>cases decide (c.words_.length=1)<;>cases c.words_.all rW<;>cases c.kids_.all Q5p<;>rfl
 rw[G0b u,Q0a]
 by_cases z:c.kind_=15
 ·rw[G0h z,Q0b,d,G0a,Y4z c z,z]
  show _=some (true&&_)
  cases shpB c true false false<;>cases(c.kids_.all λc=>lvl 4 c.kind_&&rC c)<;>rfl
 rw[G0b z,Q0a]
 by_cases A:c.kind_=16
 ·rw[G0h A,Q0b,d,G0a,Y4y c A,A]
  show _=some (true&&_)
  cases shpB c false true false<;>cases decide (0<c.words_.length)<;>cases decide (c.kids_.length=0)<;>cases c.words_.all rW<;>rfl
 rw[G0b A,Q0a]
 by_cases C:c.kind_=1
 ·rw[G0h C,Q0b,d,G0a,rC_1 c C,C,V3k f c M I J O]
  have e:shpB c false true true=decide (c.name_=[]):=by
   rw[shpB]
   cases decide (c.name_=[])<;>cases decide (c.words_.length=0)<;>cases decide (c.redirs_.length=0)<;>rfl
  rw[e]
  show _=some (true&&_)
  cases decide (c.name_=[])<;>cases decide (c.kids_.length=0)<;>rfl
 rw[G0b C,Q0a]
 have p:lvl 1 c.kind_=false:=by
  simp only[G2n,G4j]at l m
  rw[lvl,lev,G0b C,G0b o,G0b l.1,G0b m.1,G0b l.2.2,G0b t,G0b m.2,G0b q,G0b l.2.1,G0b z,G0b A,G0b u]
  cases decide (c.kind_=3)<;>cases(decide (c.kind_=5)||decide (c.kind_=6))<;>cases decide (c.kind_=14)<;>rfl
 rw[p]
 rfl
theorem Z7w:∀n:Nat,(∀w:Word,2 * nW w<n->nW w<=2000->smW w->K260 n w=some (!decide (w.kind_=4)&&rW w))/\(∀c:Cmd,2 * nC c<n->nC c<=2000->smC c->K182 n c=some (lvl 1 c.kind_&&rC c))/\
 (∀c:Cmd,2 * nC c+1<n->nC c<=2000->smC c->K98 n c=some (lvl 3 c.kind_&&rC c))
 | 0=>⟨λ_ h=>by omega,λ_ h=>by omega,λ_ h=>by omega⟩
 | n+1=>by
   obtain⟨C,o,u⟩:=Z7w n
   have p:∀x:Word,2 * nW x<n->nW x<=2000->smW x->F234 (K260 n) x=some (rW x):=λx a hb hs=>by
    have m:=Q7h x
    have q:=Q2e x.words_
    have g:=hs
    rw[Q8h]at g
    exact V3i _ x (by omega) (C x a hb hs) (λy e=>C y (by have:=Q1o e;omega) (by have:=Q1o e;omega) (Q5k g.2.2.1 e))
   have t:∀x:Cmd,2 * nC x+1<n->nC x<=2000->smC x->F64 (K98 n) x=some (lvl 4 x.kind_&&rC x):=λx a hb hs=>by
    have m:=Q3y x
    have g:=hs
    rw[Q8i]at g
    exact K8m _ x (by omega) (u x a hb hs) (λy e=>u y (by have:=Q0q e;omega) (by have:=Q0q e;omega) (Q1h g.2.2.2.2 e))
   refine⟨λw E hb hs=>?_,λc E hb hs=>?_,λc E hb hs=>?_⟩
   ·show F260 (K98 n) (K260 n) w=_
    have F:=Q7h w
    have K:=Q2e w.words_
    have H:=Q1m w.cmd_
    rw[Q8h]at hs
    exact V3f _ _ w (by omega) (by omega) (by omega) (λx a=>p x (by have:=Q1o a;omega) (by have:=Q1o a;omega) (Q5k hs.2.2.1 a)) (λx a=>t x (by have:=Q0q a;omega) (by have:=Q0q a;omega) (Q1h hs.2.2.2 a))
   ·show F182 (K98 n) (K182 n) (K260 n) c=_
    have F:=Q3y c
    have K:=Q2e c.words_
    have H:=Q1m c.kids_
    have V:=Q7u c.redirs_
    rw[Q8i]at hs
    obtain⟨L,M,z,I,l⟩:=hs
    refine V3t _ _ _ c (by omega) (by omega) (by omega) (λx a=>p x (by have:=Q1o a;omega) (by have:=Q1o a;omega) (Q5k z a)) (λd hd=>?_) (λx a=>?_) (λx a=>o x (by have:=Q0q a;omega) (by have:=Q0q a;omega) (Q1h l a))
     (λx a=>t x (by have:=Q0q a;omega) (by have:=Q0q a;omega) (Q1h l a)) (λx a=>?_) (λx a=>?_)
    ·have m:=Q8t hd
     have q:=Z3v d
     have A:=J2r I hd
     rw[X0y]at A
     have O:=A
     rw[Q8h]at O
     exact V3h _ d (p _ (by omega) (by omega) A) (by omega) (by omega)
    ·have J:=Q5k z a
     rw[Q8h]at J
     refine⟨by omega,λy e=>?_⟩
     have Q:=Q5k J.2.2.1 e
     rw[Q8h]at Q
     omega
    ·have m:=Q0q a
     have q:=Q3y x
     have g:=Q1m x.kids_
     have f:=Q1h l a
     rw[Q8i]at f
     exact V3m _ x (by omega) (by omega) (λy e=>t y (by have:=Q0q e;omega) (by have:=Q0q e;omega) (Q1h f.2.2.2.2 e))
    have m:=Q0q a
    have q:=Q3y x
    have g:=Q1m x.kids_
    have W:=Q2e x.words_
    have f:=Q1h l a
    rw[Q8i]at f
    exact V3l _ _ x (by omega) (by omega) (by omega) (λy e=>t y (by have:=Q0q e;omega) (by have:=Q0q e;omega) (Q1h f.2.2.2.2 e)) (λy e=>p y (by have:=Q1o e;omega) (by have:=Q1o e;omega) (Q5k f.2.2.1 e))
   show F98 (K98 n) (K182 n) c=_
   have F:=Q3y c
   have H:=Q1m c.kids_
   have U:=hs
   rw[Q8i]at hs
   obtain⟨L,M,z,I,l⟩:=hs
   refine Y3c _ _ c (by omega) (by omega) (o c (by omega) hb U) (λx a=>o x (by have:=Q0q a;omega) (by have:=Q0q a;omega) (Q1h l a)) (λx a=>u x (by have:=Q0q a;omega) (by have:=Q0q a;omega) (Q1h l a)) (λx a=>?_)
   have m:=Q0q a
   have q:=Q3y x
   have g:=Q1m x.kids_
   have f:=Q1h l a
   rw[Q8i]at f
   exact⟨by omega,by omega,λy e=>o y (by have:=Q0q e;omega) (by have:=Q0q e;omega) (Q1h f.2.2.2.2 e)⟩
theorem Y4k(l:List Cmd)(hb:nCs l<=2000)(hs:smCs l):F13 l=some ((decide (szCs l<=1024)&&decide (dCs l<=32))&&l.all λc=>lvl 4 c.kind_&&rC c):=by
 have g:=Q1m l
 rw[F13,K8r l (by omega),G0a]
 exact Q3z λ_=>J7c _ l (by omega) (λx d=>by
  have m:=Q0q d
  have o:=Q3y x
  have e:=Q1h hs d
  have f:=e
  rw[Q8i]at f
  exact K8m _ x (by omega) ((Z7w BIG).2.2 x (by unfold BIG;omega) (by omega) e) (λy a=>(Z7w BIG).2.2 y (by have:=Q0q a;unfold BIG;omega) (by have:=Q0q a;omega) (Q1h f.2.2.2.2 a)))
def Q0l(c:UInt8):Str->List Str
 | []=>[[]]
 | x::r=>if x=c then[]::Q0l c r else match Q0l c r with
   | []=>[[x]]
   | p::ps=>(x::p)::ps
theorem X1j(c:UInt8):∀s:Str,∃p ps,Q0l c s=p::ps
 | []=>⟨[],[],rfl⟩
 | x::r=>by
   obtain⟨p,ps,h⟩:=X1j c r
   simp only[Q0l]
   split
   ·exact⟨_,_,rfl⟩
   rw[h]
   exact⟨_,_,rfl⟩
theorem J5t{c:UInt8}:∀ (n:Nat) (t:Str),n<t.length->(∀j,j<n->t.getD j 0≠c)->t.getD n 0=c->Q0l c t=t.take n::Q0l c (t.drop (n+1))
 | 0,[],h,_,_=>by simp at h
 | 0,x::r,_,_,a=>by
   simp only[G5i]at a
   simp[Q0l,a]
 | n+1,[],h,_,_=>by simp at h
 | n+1,x::r,h,d,a=>by
   have e:x≠c:=by simpa using d 0 (by omega)
   have f:=J5t n r (by simpa using h) (λj g=>by simpa using d (j+1) (by omega)) (by simpa using a)
   simp only[Q0l,if_neg e]
   rw[f]
   simp
theorem J1b{c:UInt8}:∀ (t:Str),(∀j,j<t.length->t.getD j 0≠c)->Q0l c t=[t]
 | [],_=>rfl
 | x::r,h=>by
   have a:x≠c:=by simpa using h 0 (by simp)
   have d:=J1b r (λj e=>by simpa using h (j+1) (by simpa using e))
   simp only[Q0l,if_neg a]
   rw[d]
theorem Z8a{c:UInt8}(b:Str):∀ (a:Str),c∉a->Q0l c (a++c::b)=a::Q0l c b
 | [],_=>by simp[Q0l]
 | x::r,h=>by
   simp only[G1j,not_or]at h
   simp only[G1d,Q0l,if_neg (λe=>h.1 (Eq.symm e)),Z8a b r h.2]
theorem K7k(c:UInt8):∀s:Str,(Lib.index s [c]=-1/\∀j,j<s.length->s.getD j 0≠c)\/∃i:Nat,i<s.length/\Lib.index s [c]=i/\s.getD i 0=c/\∀j,j<i->s.getD j 0≠c
 | []=>.inl ⟨rfl,λj a=>absurd a (G2q j)⟩
 | x::r=>by
   by_cases d:c=x
   ·refine .inr ⟨0,by simp,?_,by simp[d],λj a=>absurd a (G2q j)⟩
    simp[Lib.index,List.isPrefixOf,d]
   have l:([c]:Str).isPrefixOf (x::r)=false:=by simp[List.isPrefixOf,d]
   rcases K7k c r with⟨f,g⟩|⟨i,hi,f,g,h3⟩
   ·refine .inl ⟨by simp[Lib.index,l,f],λj a=>?_⟩
    cases j with
    | zero=>simpa using λe=>d (Eq.symm e)
    | succ j=>simpa using g j (by simpa using a)
   refine .inr ⟨i+1,by simpa using hi,?_,by simpa using g,λj a=>?_⟩
   ·have:((i:Int)==-1)=false:=by rw[G5v];omega
    simp[Lib.index,l,f,this]
   cases j with
   | zero=>simpa using λe=>d (Eq.symm e)
   | succ j=>simpa using h3 j (by omega)
theorem Z5c(c:UInt8):∀ (a:Nat) (s:Str),s.length<a->Lib.splitK [c] 0 (Lib.countFrom [c] a s) s=Q0l c s
 | 0,s,h=>absurd h (G2q _)
 | a+1,s,h=>by
   simp only[Lib.countFrom]
   rcases K7k c s with⟨d,e⟩|⟨i,g,d,e,l⟩
   ·rw[d]
    simp only[beq_self_eq_true,if_true]
    rw[J1b s e]
    rfl
   have f:((i:Int)==-1)=false:=by rw[G5v];omega
   rw[d,f]
   simp only[G3a,G2v,G2l,G7i]
   rw[G5s 1,Lib.splitK,d,f]
   simp only[G3a,G2v,G2l,G7i,G3m]
   rw[Z5c c a (s.drop (i+1)) (by simp;omega),J5t i s g l e]
theorem J4x(s:Str)(c:UInt8):Z0r s [c]=Q0l c s:=by
 unfold Z0r
 have:=Lib.splitB_data ⟨⟨[c]⟩⟩ 0 (Lib.countB ⟨⟨s⟩⟩ ⟨⟨[c]⟩⟩) ⟨⟨s⟩⟩
 rw[this]
 exact Z5c c (s.length+1) s (Nat.lt_succ_self _)
theorem X5z{s:Str}(c:UInt8)(h:s.length<=4294967280):Z4i s [c]=some (Q0l c s):=by
 unfold Z4i
 rw[if_pos ⟨by omega,by simp⟩,J4x]
def dbl:Str->Str
 | []=>[]
 | c::r=>bif decide (B c=39)then c::39::dbl r else c::dbl r
theorem X9y:∀s:Str,(dbl s).length<=2 * s.length
 | []=>G0r _
 | c::r=>by
   have:=X9y r
   simp only[dbl]
   cases decide (B c=39)<;>simp<;>omega
theorem Z5f(c:UInt8)(a:Str):∀s:Str,Lib.replaceK [c] a (Lib.count s [c]) s=s.flatMap λx=>if x=c then a else[x]
 | []=>by
   have:Lib.count [] [c]=0:=by rw[Lib.count_one];rfl
   rw[this]
   rfl
 | x::s=>by
   have f:=Z5f c a s
   rw[G4m,<-f]
   by_cases d:x=c
   ·subst d
    rw[Lib.count_cons_eq,G5s,Lib.replaceK_hit [x] a _ (x::s) 0 (by rw[Lib.index_one];simp[Lib.indexByte])]
    simp
   rw[Lib.count_cons_ne x c s d,if_neg d]
   cases hk:Lib.count s [c]with
   | zero=>rfl
   | succ k=>
     obtain⟨i,e⟩:=Lib.index_of_count (s:=s) (old:=[c]) (by omega)
     have g:Lib.index (x::s) [c]=((i+1:Nat):Int):=by
      rw[Lib.index_one]at e |-
      simp only[Lib.indexByte]
      rw[if_neg (by simpa using d),if_neg (by rw[e];simp),e]
      simp
     rw[Lib.replaceK_hit [c] a k (x::s) (i+1) g,Lib.replaceK_hit [c] a k s i e]
     simp
theorem Z8s:∀s:Str,(s.flatMap λx=>if x=39 then[39,39]else[x])=dbl s
 | []=>rfl
 | c::r=>by
   rw[G4m,Z8s r]
   simp only[dbl]
   have hb:decide (B c=39)=decide (c=39):=Q4v c 39
   rw[hb]
   by_cases a:c=39
   ·subst a
    rfl
   rw[if_neg a,G0b a]
   rfl
theorem Z9j{s:Str}(hs:s.length<=2147483647):Q2p s [39] [39,39]=some (dbl s):=by
 have a:Lib.countB ⟨⟨s⟩⟩ ⟨⟨[39]⟩⟩<=s.length:=Lib.countB_le ⟨⟨[39]⟩⟩ (by decide) s.length ⟨⟨s⟩⟩ (G0r _)
 unfold Q2p
 rw[if_pos ⟨by omega,by decide,by simp only[G0i,G0z];omega⟩]
 have:Lib.replaceAll s [39] [39,39]=Lib.replaceK [39] [39,39] (Lib.count s [39]) s:=rfl
 rw[this,Z5f,Z8s]
def Z3w(a:List Str):Nat->Nat->Nat
 | 0,n=>n
 | k+1,n=>bif a.any (λm=>decide (m=List.replicate n 69))then Z3w a k (n+1)else n
def mark(t:Str):Str:=List.replicate (Z3w (Q0l 10 t) (t.length+1) 1) 69
theorem Z2k:∀ (s:Str) (p:Str),p∈Q0l 10 s->p.length<=s.length
 | [],p,h=>by
   rw[Q0l,G1p]at h
   rw[h]
   exact G0r _
 | x::r,p,h=>by
   rw[Q0l]at h
   by_cases d:x=10
   ·rw[if_pos d]at h
    rcases G1j.1 h with rfl|h
    ·exact G1t _
    exact Nat.le_succ_of_le (Z2k r p h)
   rw[if_neg d]at h
   obtain⟨q,f,e⟩:=X1j 10 r
   rw[e]at h
   have a:∀y,y∈Q0l 10 r->y.length<=r.length:=Z2k r
   rw[e]at a
   rcases G1j.1 h with rfl|h
   ·have:=a q (G1g ..)
    simpa using this
   exact Nat.le_succ_of_le (a p (G1l _ h))
theorem X1t(a:List Str):∀k n,Z3w a k n<=n+k
 | 0,n=>G0r _
 | k+1,n=>by
   rw[Z3w]
   cases a.any (λm=>decide (m=List.replicate n 69))with
   | true=>exact G3c (X1t a k (n+1)) (by omega)
   | false=>exact Nat.le_add_right _ _
theorem K3y(t:Str):(mark t).length<=t.length+2:=by
 rw[mark,G1z]
 have:=X1t (Q0l 10 t) (t.length+1) 1
 omega
theorem X8j(t:Str)(a:t.length<=1000000):∀ (k n m:Nat),n+k=t.length+2->k<m->iter (Z4y (Q0l 10 t)) m (List.replicate n 69)=some (List.replicate (Z3w (Q0l 10 t) k n) 69)
 | k,n,0,_,h=>absurd h (G2q _)
 | k,n,m+1,p,h=>by
   show Z4y (Q0l 10 t) (iter (Z4y (Q0l 10 t)) m) (List.replicate n 69)=_
   rw[Z4y]
   show(bif (Q0l 10 t).any (λx=>decide (x=List.replicate n 69))then _ else _)=_
   cases e:(Q0l 10 t).any (λx=>decide (x=List.replicate n 69))with
   | false=>
     rw[Q0a]
     cases k with
     | zero=>rfl
     | succ k=>rw[Z3w,e,Q0a]
   | true=>
     obtain⟨x,d,f⟩:=G4v.1 e
     have g:=G3e f
     have l:=Z2k t x d
     rw[g,G1z]at l
     cases k with
     | zero=>omega
     | succ k=>
       have o:catO (List.replicate n 69) [69]=some (List.replicate (n+1) 69):=by
        rw[Z4e (by rw[G1z];simp only[G0i,G0z];omega),<-List.replicate_succ' ]
       rw[Q0b,o,G0a,X8j t a k (n+1) m (by omega) (by omega),Z3w,e,Q0b]
theorem K2k(t:Str)(a:t.length<=1000000):F109 t=some (mark t):=by
 rw[F109,X5z 10 (by omega),G0a]
 exact X8j t a (t.length+1) 1 BIG (by omega) (by unfold BIG;omega)
abbrev St:=Str×Str
def put(s:Str)(st:St):St:=(st.1++s,st.2)
def endl(b:Str):Str:=bif decide (b.getLast?=some 92)then b++[32]else b
def nl(st:St):St:=(endl st.1++(10::st.2),[])
def wait(s:Str)(st:St):St:=(st.1,st.2++s)
theorem Q0t(a b:Str)(st:St):put b (put a st)=put (a++b) st:=by rw[put,put,put,G0e]
theorem Q7s(st:St):put [] st=st:=by rw[put,G0n]
def qrun:Bool->Str->Str->Str
 | o,c::t,x::q=>bif decide (B x=49)then(bif o then[]else[39])++(c::(bif decide (B c=39)then[39]else[])++qrun true t q)
   else(bif o then[39]else[])++c::qrun false t q
 | o,_,_=>bif o then[39]else[]
def Q5q(t q:Str):Str:=bif decide (t=[])then[39,39]else qrun false t q
def dig(n:Int):Str:=bif decide (n<10)then[UInt8.ofNat (48+n.toNat)]else[UInt8.ofNat (48+n.toNat / 10),UInt8.ofNat (48+n.toNat % 10)]
def brk(n u:Int):Str:=bif decide (n=u)then[]else 91::(dig n++[93])
def qraw(raw:Bool):Str:=bif raw then[39]else[]
mutual
def pW:Word->St->St
 | ⟨k,t,q,ws,cs⟩,st=>
   bif decide (k=1)then put (Q5q t q) st
   else bif decide (k=2)then put (36::t) st
   else bif decide (k=3)then put (36::35::t) st
   else bif decide (k=7)then put [41] (pSep ws [32] true (put (36::(t++[40])) st))
   else bif decide (k=5)then put [41] (pSep ws [32] true (put [40] st))
   else bif decide (k=4)then pSep ws [94] true st
   else put [125] (pIts cs (nl (put [96,123] st)))
def pSep:List Word->Str->Bool->St->St
 | [],_,_,st=>st
 | w::r,s,f,st=>pSep r s false (pW w (bif f then st else put s st))
def pC:Cmd->St->St
 | ⟨k,_,nm,ws,rs,ks⟩,st=>
   bif decide (k=14)then put [32,38] (pJ ks [] true st)
   else bif decide (k=5)then pJ ks [32,38,38,32] true st
   else bif decide (k=6)then pJ ks [32,124,124,32] true st
   else bif decide (k=3)then pJ ks [32,124,32] true st
   else bif decide (k=7)then pJ ks [] true (put [33,32] st)
   else bif decide (k=13)then pJ ks [] true (put [64,32] st)
   else bif decide (k=9)then pJ ks [] true (put [105,102,32,110,111,116,32] st)
   else bif decide (k=12)then pRs rs false (put [125] (pIts ks (nl (put [123] st))))
   else bif decide (k=1)then pRs rs (decide (ws=[])) (pSep ws [32] true st)
   else bif decide (k=2)then pJ ks [] true (bif decide (ks.length=0)then pSep ws [32] true (put (nm++[61]) st)else put [32] (pSep ws [32] true (put (nm++[61]) st)))
   else bif decide (k=8)then pT ks (put [105,102,40] st)
   else bif decide (k=11)then pT ks (put [119,104,105,108,101,40] st)
   else bif decide (k=10)then pJ ks [] true (put [41,32] (pSep ws [32] false (put ([102,111,114,40]++(nm++[32,105,110])) st)))
   else bif decide (k=17)then put [125] (pCs ks (nl (put [32,123] (pSep ws [32] false (put [115,119,105,116,99,104] st)))))
   else bif decide (k=15)then(bif decide (ks.length=0)then put ([102,110,32]++nm) st else put [125] (pIts ks (nl (put ([102,110,32]++nm++[32,123]) st))))
   else pSep ws [32] false (put [126] st)
def pIts:List Cmd->St->St
 | [],st=>st
 | c::r,st=>pIts r (nl (pC c st))
def pJ:List Cmd->Str->Bool->St->St
 | [],_,_,st=>st
 | c::r,s,f,st=>pJ r s false (pC c (bif f then st else put s st))
def pT:List Cmd->St->St
 | [],st=>st
 | c::r,st=>pJ r [] true (put [41,32] (pK c (nl st)))
def pK:Cmd->St->St
 | ⟨_,_,_,_,_,ks⟩,st=>pIts ks st
def pCa:Cmd->St->St
 | ⟨_,_,_,ws,_,ks⟩,st=>pIts ks (nl (pSep ws [32] false (put [99,97,115,101] st)))
def pCs:List Cmd->St->St
 | [],st=>st
 | c::r,st=>pCs r (pCa c st)
def pR:Redir->St->St
 | ⟨k,fd,a,w,raw⟩,st=>
   bif decide (k=1)then pW w (put (60::(brk fd 0++[32])) st)
   else bif decide (k=2)then pW w (put (62::(brk fd 1++[32])) st)
   else bif decide (k=3)then pW w (put (62::62::(brk fd 1++[32])) st)
   else bif decide (k=5)then put ([62,91]++dig fd++[61]++dig a++[93]) st
   else bif decide (k=6)then put ([62,91]++dig fd++[61,93]) st
   else put ([60,60]++qraw raw++mark w.text_++qraw raw) (wait (w.text_++(mark w.text_++[10])) st)
def pRs:List Redir->Bool->St->St
 | [],_,st=>st
 | d::r,f,st=>pRs r false (pR d (bif f then st else put [32] st))
end
theorem Y5c(w:Word)(st:St):pW w st=
 (bif decide (w.kind_=1)then put (Q5q w.text_ w.quoted_) st
 else bif decide (w.kind_=2)then put (36::w.text_) st
 else bif decide (w.kind_=3)then put (36::35::w.text_) st
 else bif decide (w.kind_=7)then put [41] (pSep w.words_ [32] true (put (36::(w.text_++[40])) st))
 else bif decide (w.kind_=5)then put [41] (pSep w.words_ [32] true (put [40] st))
 else bif decide (w.kind_=4)then pSep w.words_ [94] true st
 else put [125] (pIts w.cmd_ (nl (put [96,123] st)))):=by
 obtain⟨_,_,_,ws,cs⟩:=w
 rw[pW]
theorem J0b(c:Cmd)(st:St):pC c st=
 (bif decide (c.kind_=14)then put [32,38] (pJ c.kids_ [] true st)
 else bif decide (c.kind_=5)then pJ c.kids_ [32,38,38,32] true st
 else bif decide (c.kind_=6)then pJ c.kids_ [32,124,124,32] true st
 else bif decide (c.kind_=3)then pJ c.kids_ [32,124,32] true st
 else bif decide (c.kind_=7)then pJ c.kids_ [] true (put [33,32] st)
 else bif decide (c.kind_=13)then pJ c.kids_ [] true (put [64,32] st)
 else bif decide (c.kind_=9)then pJ c.kids_ [] true (put [105,102,32,110,111,116,32] st)
 else bif decide (c.kind_=12)then pRs c.redirs_ false (put [125] (pIts c.kids_ (nl (put [123] st))))
 else bif decide (c.kind_=1)then pRs c.redirs_ (decide (c.words_=[])) (pSep c.words_ [32] true st)
 else bif decide (c.kind_=2)then pJ c.kids_ [] true (bif decide (c.kids_.length=0)then pSep c.words_ [32] true (put (c.name_++[61]) st)else put [32] (pSep c.words_ [32] true (put (c.name_++[61]) st)))
 else bif decide (c.kind_=8)then pT c.kids_ (put [105,102,40] st)
 else bif decide (c.kind_=11)then pT c.kids_ (put [119,104,105,108,101,40] st)
 else bif decide (c.kind_=10)then pJ c.kids_ [] true (put [41,32] (pSep c.words_ [32] false (put ([102,111,114,40]++(c.name_++[32,105,110])) st)))
 else bif decide (c.kind_=17)then put [125] (pCs c.kids_ (nl (put [32,123] (pSep c.words_ [32] false (put [115,119,105,116,99,104] st)))))
 else bif decide (c.kind_=15)then(bif decide (c.kids_.length=0)then put ([102,110,32]++c.name_) st else put [125] (pIts c.kids_ (nl (put ([102,110,32]++c.name_++[32,123]) st))))
 else pSep c.words_ [32] false (put [126] st)):=by
 obtain⟨_,_,_,ws,rs,ks⟩:=c
 rw[pC]
theorem V5h(c:Cmd)(st:St):pK c st=pIts c.kids_ st:=by
 obtain⟨_,_,_,ws,rs,ks⟩:=c
 rw[pK]
theorem V5i(c:Cmd)(st:St):pCa c st=pIts c.kids_ (nl (pSep c.words_ [32] false (put [99,97,115,101] st))):=by
 obtain⟨_,_,_,ws,rs,ks⟩:=c
 rw[pCa]
theorem Y5d(d:Redir)(st:St):pR d st=
 (bif decide (d.kind_=1)then pW d.word_ (put (60::(brk d.fd_ 0++[32])) st)
 else bif decide (d.kind_=2)then pW d.word_ (put (62::(brk d.fd_ 1++[32])) st)
 else bif decide (d.kind_=3)then pW d.word_ (put (62::62::(brk d.fd_ 1++[32])) st)
 else bif decide (d.kind_=5)then put ([62,91]++dig d.fd_++[61]++dig d.from_++[93]) st
 else bif decide (d.kind_=6)then put ([62,91]++dig d.fd_++[61,93]) st
 else put ([60,60]++qraw d.raw_++mark d.word_.text_++qraw d.raw_) (wait (d.word_.text_++(mark d.word_.text_++[10])) st)):=by
 obtain⟨_,_,_,w,_⟩:=d
 rw[pR]
def sz(st:St):Nat:=st.1.length+st.2.length
def LIM:Nat:=1000000000
section Sim
variable {δ:Type}(pd:δ->Str)(ok:δ->Prop)
def Sim(f:Str->δ->Option (Str×δ))(g:St->St)(c:Nat):Prop:=
 ∀b l,ok l->sz (b,pd l)+c<=LIM->∃l',f b l=some ((g (b,pd l)).1,l')/\pd l'=(g (b,pd l)).2/\ok l'/\sz (g (b,pd l))<=sz (b,pd l)+c
variable {pd ok}
theorem Wq2:Sim pd ok (λb l=>some (b,l)) (λst=>st) 0:=λb l h _=>⟨l,rfl,rfl,h,G0r _⟩
theorem Sim.weak{f:Str->δ->Option (Str×δ)}{g g':St->St}{c c':Nat}(h:Sim pd ok f g c)(a:∀st,g st=g' st)(p:c<=c'):Sim pd ok f g' c':=by
 have:g=g':=funext a
 subst this
 intro b l d q
 obtain⟨l',e,m,o,t⟩:=h b l d (by omega)
 exact⟨l',e,m,o,by omega⟩
theorem Sim.w{f:Str->δ->Option (Str×δ)}{g g':St->St}{c c':Nat}(h:Sim pd ok f g c)(a:∀st,g st=g' st:=by intro st;first|rfl|simp only[G2o,G3k,G0n,G1d,G0t,G0e])
 (d:c<=c':=by first|omega|(simp only[nCs,nWs,nRs,G2o,G3k,G0n,G0g,G0i,G0z];omega)):Sim pd ok f g' c':=h.weak a d
theorem Sim.bind{d f:Str->δ->Option (Str×δ)}{a e:St->St}{g c2:Nat}(p:Sim pd ok d a g)(q:Sim pd ok f e c2):
 Sim pd ok (λb l=>(d b l).bind λ(b,l)=>f b l) (λst=>e (a st)) (g+c2):=by
 intro b l k1 k2
 obtain⟨m,t,u,x,F⟩:=p b l k1 (by omega)
 have y:((a (b,pd l)).1,pd m)=a (b,pd l):=by rw[u]
 have o:=q (a (b,pd l)).1 m x
 rw[y]at o
 obtain⟨z,A,C,E,H⟩:=o (by omega)
 refine⟨z,?_,C,E,?_⟩
 ·show(d b l).bind _=_
  rw[t,G0a]
  exact A
 show sz (e (a (b,pd l)))<=_
 omega
def App(f:Str->δ->Option Str)(s:Str):Prop:=∀b l,ok l->sz (b,pd l)+s.length<=LIM->f b l=some (b++s)
theorem Sim.put{f:Str->δ->Option Str}{s:Str}(a:App (pd:=pd) (ok:=ok) f s){k:Str->δ->Option (Str×δ)}{g:St->St}{c:Nat}(h:Sim pd ok k g c):
 Sim pd ok (λb l=>(f b l).bind λo=>k o l) (λst=>g (put s st)) (s.length+c):=by
 intro b l k1 k2
 have:=h (b++s) l k1 (by simp only[sz,G0g]at k2 |-;omega)
 obtain⟨l',d,e,m,p⟩:=this
 refine⟨l',?_,e,m,?_⟩
 ·show(f b l).bind _=_
  rw[a b l k1 (by omega),G0a]
  exact d
 refine G3c p ?_
 unfold sz
 simp only[G0g]
 omega
theorem Sim.loop{α:Type}{body:((Int×Str×δ)->Option (Str×δ))->(Int×Str×δ)->Option (Str×δ)}(l:List α)(G:Bool->List α->St->St)(a:List α->Nat)(A:l.length<=1000000)
 (m:∀ (i:Nat) (u:α) (r:List α) (f:(Int×Str×δ)->Option (Str×δ)),i<1000000->l.drop i=u::r->lidx l (i:Int)=some u->decide ((i:Int)<(l.length:Int))=true->
   Sim pd ok (λb d=>f (IntKind.wrap .i64 ((i:Int)+1),b,d)) (G false r) (a r)->Sim pd ok (λb d=>body f ((i:Int),b,d)) (G (decide (i=0)) (u::r)) (a (u::r)))
 (o:∀ (f:(Int×Str×δ)->Option (Str×δ)),decide ((l.length:Int)<(l.length:Int))=false->Sim pd ok (λb d=>body f ((l.length:Int),b,d)) (G (decide (l=[])) []) (a [])):
 Sim pd ok (λb d=>iter body BIG (0,b,d)) (G true l) (a l):=by
 have q:∀ (n i:Nat),i<=l.length->l.length-i<n->Sim pd ok (λb d=>iter body n ((i:Int),b,d)) (G (decide (i=0)) (l.drop i)) (a (l.drop i)):=by
  intro n
  induction n with
  | zero=>intro i t x;omega
  | succ n y=>
    intro i t x
    by_cases g:i<l.length
    ·have hd:=Q1v g
     rw[hd]
     refine m i l[i] (l.drop (i+1)) (iter body n) (by omega) hd (Q6y g) (G0h (by omega)) ?_
     have:=y (i+1) (by omega) (by omega)
     rw[G0b (p:=i+1=0) (by omega)]at this
     rw[Q0j (by omega) (by omega)]
     exact this
    have z:i=l.length:=by omega
    subst z
    have:=o (iter body n) (G0b (by omega))
    rw[List.drop_length]
    have e:decide (l.length=0)=decide (l=[]):=G1e.2 G1q
    rw[e]
    exact this
 exact q BIG 0 (G1t _) (by unfold BIG;omega)
end Sim
end Go.Abs.U48
