import Derived.Test.YtljahlbklgnfhaaGreatDoorA39
import Derived.Test.YtljahlbklgnfhaaGreatDoorA28
import Derived.Test.YtljahlbklgnfhaaGreatDoorD1
import Derived.Lib.IndexAny
import Derived.Lib.IndexBytes
import Derived.Lib.IndexLaws
import Derived.Lib.TrimUEq
import Derived.Lib.SplitLaws
import Derived.Test.YtljahlbklgnfhaaGreatDoorAK
set_option linter.unusedVariables false
set_option linter.unusedSimpArgs false
set_option linter.defProp false
namespace Go.Abs.U48
open Go Go.Proofs
mutual
def nW:Word->Nat
 | ⟨_,_,_,a,cs⟩=>1+nWs a+nCs cs
def nWs:List Word->Nat
 | []=>0
 | w::r=>nW w+nWs r
def nC:Cmd->Nat
 | ⟨_,_,_,a,rs,ks⟩=>1+nWs a+nCs ks+nRs rs
def nCs:List Cmd->Nat
 | []=>0
 | c::r=>nC c+nCs r
def nR:Redir->Nat
 | ⟨_,_,_,w,_⟩=>nW w
def nRs:List Redir->Nat
 | []=>0
 | r::s=>nR r+nRs s
end
theorem Q6s(w:Word):nW w=1+nWs w.words_+nCs w.cmd_:=by obtain⟨_,_,_,a,cs⟩:=w;rw[nW]
theorem Q3r(c:Cmd):nC c=1+nWs c.words_+nCs c.kids_+nRs c.redirs_:=by obtain⟨_,_,_,a,rs,ks⟩:=c;rw[nC]
theorem Z4i(r:Redir):nR r=nW r.word_:=by obtain⟨_,_,_,w,_⟩:=r;rw[nR]
mutual
def okW:Word->Prop
 | ⟨_,t,q,a,cs⟩=>t.length<=maxLen/\q.length<=maxLen/\a.length<=maxLen/\cs.length<=maxLen/\okWs a/\okCs cs
def okWs:List Word->Prop
 | []=>True
 | w::r=>okW w/\okWs r
def okC:Cmd->Prop
 | ⟨_,_,nm,a,rs,ks⟩=>nm.length<=maxLen/\a.length<=maxLen/\rs.length<=maxLen/\ks.length<=maxLen/\okWs a/\okRs rs/\okCs ks
def okCs:List Cmd->Prop
 | []=>True
 | c::r=>okC c/\okCs r
def okR:Redir->Prop
 | ⟨_,_,_,w,_⟩=>okW w
def okRs:List Redir->Prop
 | []=>True
 | r::s=>okR r/\okRs s
end
mutual
def smW:Word->Prop
 | ⟨_,t,q,a,cs⟩=>t.length<=2000/\q.length<=2000/\smWs a/\smCs cs
def smWs:List Word->Prop
 | []=>True
 | w::r=>smW w/\smWs r
def smC:Cmd->Prop
 | ⟨_,_,nm,a,rs,ks⟩=>nm.length<=2000/\rs.length<=2000/\smWs a/\smRs rs/\smCs ks
def smCs:List Cmd->Prop
 | []=>True
 | c::r=>smC c/\smCs r
def smR:Redir->Prop
 | ⟨_,_,_,w,_⟩=>smW w
def smRs:List Redir->Prop
 | []=>True
 | r::s=>smR r/\smRs s
end
theorem Q0b{α:Type}(x y:α):(bif true then x else y)=x:=rfl
theorem Q0a{α:Type}(x y:α):(bif false then x else y)=y:=rfl
end Go.Abs.U48
namespace Go.Abs.U48
open Go Go.Proofs
def sumL{α:Type}(f:α->Nat):List α->Nat
 | []=>0
 | x::r=>f x+sumL f r
def maxL{α:Type}(f:α->Nat):List α->Nat
 | []=>0
 | x::r=>max (f x) (maxL f r)
theorem Z4t{α R:Type}(f:α->Nat)(w:α->Option Int)(fin:Int->Option R):∀ (l:List α) (i:Int) (s:Nat),(∀x∈l,w x=some (f x:Int))->s+sumL f l<=1000000->
 Q4z (λu _ k (s:Int)=>(w u).bind λr=>k (IntKind.wrap .i64 (s+r))) fin l i (s:Int)=fin ((s+sumL f l:Nat):Int)
 | [],i,s,_,_=>by rw[Q4z,sumL];rfl
 | x::r,i,s,a,hb=>by
   rw[sumL]at hb
   rw[Q4z,a x (by simp),G0a,Q0f (by omega) (by omega),show(s:Int)+(f x:Int)=((s+f x:Nat):Int)by omega,Z4t f w fin r (i+1) (s+f x) (λy d=>a y (by simp[d])) (by omega),sumL]
   congr 2
   omega
theorem Z1o(a b:Nat):imax (a:Int) (b:Int)=((max a b:Nat):Int):=by
 unfold imax
 split<;>omega
theorem Q7i{α R:Type}(f:α->Nat)(w:α->Option Int)(fin:Int->Option R):∀ (l:List α) (i:Int) (s:Nat),(∀x∈l,w x=some (f x:Int))->
 Q4z (λu _ k (s:Int)=>(w u).bind λr=>k (imax s r)) fin l i (s:Int)=fin ((max s (maxL f l):Nat):Int)
 | [],i,s,_=>by rw[Q4z,maxL,G7b]
 | x::r,i,s,a=>by
   rw[Q4z,a x (by simp),G0a,Z1o,Q7i f w fin r (i+1) (max s (f x)) (λy d=>a y (by simp[d])),maxL,G7g]
theorem J7b{α:Type}(p:α->Bool)(w:α->Option Bool):∀ (l:List α) (i:Nat),(∀x∈l,w x=some (p x))->
 ∃r:Int,Q4d (λu i k=>(w u).bind λr=>bif r then some i else k) (some (-1)) l (i:Int)=some r/\decide (0<=r)=l.any p
 | [],i,_=>⟨-1,rfl,rfl⟩
 | x::r,i,a=>by
   rw[Q4d,a x (by simp),G0a,List.any_cons]
   cases p x with
   | true=>exact⟨i,rfl,by rw[G0e (by omega)];rfl⟩
   | false=>exact J7b p w r (i+1) (λy d=>a y (by simp[d]))
theorem J0i{α:Type}(p:α->Bool)(w:α->Option Bool)(fin:Bool):∀ (l:List α) (i:Int),(∀x∈l,w x=some (p x))->
 Q4d (λu _ k=>(w u).bind λr=>bif !r then some false else k) (some fin) l i=some (l.all p&&fin)
 | [],i,_=>by rw[Q4d];rfl
 | x::r,i,a=>by
   rw[Q4d,a x (by simp),G0a,G7f]
   cases p x with
   | true=>rw[G0u,Q0a,J0i p w fin r (i+1) (λy d=>a y (by simp[d])),G1i]
   | false=>rfl
def hasW(r:Redir):Bool:=!decide (r.kind_=5)&&!decide (r.kind_=6)
mutual
def szW:Word->Nat
 | ⟨_,_,_,a,cs⟩=>1+szWs a+szCs cs
def szWs:List Word->Nat
 | []=>0
 | w::r=>szW w+szWs r
def szC:Cmd->Nat
 | ⟨_,_,_,a,rs,ks⟩=>1+rs.length+szCs ks+szWs a+szRs rs
def szCs:List Cmd->Nat
 | []=>0
 | c::r=>szC c+szCs r
def szR:Redir->Nat
 | ⟨k,_,_,w,_⟩=>bif !decide (k=5)&&!decide (k=6)then szW w else 0
def szRs:List Redir->Nat
 | []=>0
 | r::s=>szR r+szRs s
end
theorem X9c(w:Word):szW w=1+szWs w.words_+szCs w.cmd_:=by obtain⟨_,_,_,a,cs⟩:=w;rw[szW]
theorem X0o(c:Cmd):szC c=1+c.redirs_.length+szCs c.kids_+szWs c.words_+szRs c.redirs_:=by obtain⟨_,_,_,a,rs,ks⟩:=c;rw[szC]
theorem X9d(r:Redir):szR r=bif hasW r then szW r.word_ else 0:=by obtain⟨_,_,_,w,_⟩:=r;rw[szR,hasW]
theorem Z1c:∀l,szWs l=sumL szW l
 | []=>by rw[szWs];rfl
 | x::r=>by rw[szWs,Z1c r];rfl
theorem Z4n:∀l,szCs l=sumL szC l
 | []=>by rw[szCs];rfl
 | x::r=>by rw[szCs,Z4n r];rfl
theorem Z9t:∀l,szRs l=sumL szR l
 | []=>by rw[szRs];rfl
 | x::r=>by rw[szRs,Z9t r];rfl
mutual
theorem X9b:∀w:Word,szW w+3<=4 * nW w
 | ⟨_,_,_,a,cs⟩=>by
   have:=Z9s a
   have:=Z0g cs
   rw[szW,nW]
   omega
theorem Z9s:∀l:List Word,szWs l<=4 * nWs l
 | []=>by rw[szWs];omega
 | w::r=>by
   have:=X9b w
   have:=Z9s r
   rw[szWs,nWs]
   omega
theorem K5u:∀c:Cmd,szC c+3<=4 * nC c
 | ⟨_,_,_,a,rs,ks⟩=>by
   have:=Z9s a
   have:=Z0g ks
   have:=X0n rs
   rw[szC,nC]
   omega
theorem Z0g:∀l:List Cmd,szCs l<=4 * nCs l
 | []=>by rw[szCs];omega
 | c::r=>by
   have:=K5u c
   have:=Z0g r
   rw[szCs,nCs]
   omega
theorem K5t:∀r:Redir,szR r+1<=4 * nR r
 | ⟨k,_,_,w,_⟩=>by
   have:=X9b w
   rw[szR,nR]
   cases(!decide (k=5)&&!decide (k=6))
   ·show 0+1<=_
    omega
   show szW w+1<=_
   omega
theorem X0n:∀l:List Redir,szRs l+l.length<=4 * nRs l
 | []=>by rw[szRs];simp
 | r::s=>by
   have:=K5t r
   have:=X0n s
   rw[szRs,nRs,G0h]
   omega
end
theorem Q7g:∀l:List Word,l.length<=nWs l
 | []=>by rw[nWs];simp
 | w::r=>by
   have:=Q7g r
   rw[nWs,Q6s,G0h]
   omega
theorem Q7h:∀l:List Cmd,l.length<=nCs l
 | []=>by rw[nCs];simp
 | w::r=>by
   have:=Q7h r
   rw[nCs,Q3r,G0h]
   omega
theorem Z0k:∀l:List Redir,l.length<=nRs l
 | []=>by rw[nRs];simp
 | w::r=>by
   have:=Z0k r
   rw[nRs,Z4i,Q6s,G0h]
   omega
theorem Q6r:∀ {l:List Word} {w:Word},w∈l->nW w<=nWs l
 | x::r,w,h=>by
   rw[nWs]
   rcases G1q.1 h with rfl|h
   ·omega
   have:=Q6r h
   omega
theorem Q8i:∀ {l:List Cmd} {w:Cmd},w∈l->nC w<=nCs l
 | x::r,w,h=>by
   rw[nCs]
   rcases G1q.1 h with rfl|h
   ·omega
   have:=Q8i h
   omega
theorem Z1j:∀ {l:List Redir} {w:Redir},w∈l->nR w<=nRs l
 | x::r,w,h=>by
   rw[nRs]
   rcases G1q.1 h with rfl|h
   ·omega
   have:=Z1j h
   omega
theorem X0s{l:List Word}:sumL szW l<=4 * nWs l:=by rw[<-Z1c];exact Z9s l
theorem X0t{l:List Cmd}:sumL szC l<=4 * nCs l:=by rw[<-Z4n];exact Z0g l
theorem w15r{R:Type}(d:Word->Option Int)(e:Int×Int->Option R)(i4:Int):∀ (l:List Redir) (i:Int) (s:Nat),(∀r∈l,d r.word_=some (szW r.word_:Int))->s+sumL szR l<=1000000->
 Q4z (λ(u:Redir) _ k (s:Int)=>(F32 u).bind λo=>bif o then(d u.word_).bind λp=>k (IntKind.wrap .i64 (s+p))else k s) (λs=>e (s,i4)) l i (s:Int)=e (((s+sumL szR l:Nat):Int),i4)
 | [],i,s,_,_=>rfl
 | x::r,i,s,f,hb=>by
   rw[sumL]at hb
   have g:=λt q=>w15r d e i4 r (i+1) t (λy z=>f y (by simp[z])) q
   have A:=f x (by simp)
   have a:=X9d x
   rw[Q4z,F32,G0a]
   rw[show(!decide (x.kind_=5)&&!decide (x.kind_=6))=hasW x from rfl]
   cases m:hasW x with
   | true=>
     rw[m,Q0b]at a
     rw[Q0b,A,G0a,Q0f (by omega) (by omega),show(s:Int)+(szW x.word_:Int)=((s+szW x.word_:Nat):Int)by omega,g _ (by omega),sumL,a,G3b]
   | false=>
     rw[m,Q0a]at a
     rw[Q0a,g _ (by omega),sumL,a,G2y]
theorem X1f:∀n:Nat,(∀w:Word,nW w<n->nW w<=40000->K31 n w=some (szW w:Int))/\(∀l:List Cmd,nCs l<n->nCs l<=40000->K15 n l=some (szCs l:Int))
 | 0=>⟨λ_ h=>by omega,λ_ h=>by omega⟩
 | n+1=>by
   obtain⟨f,g⟩:=X1f n
   refine⟨λw q hb=>?_,λl q hb=>?_⟩
   ·show F31 (K15 n) (K31 n) w=_
    have I:=Q6s w
    have t:=Q7g w.words_
    have hs:=X0s (l:=w.words_)
    have J:=Z0g w.cmd_
    rw[F31,g w.cmd_ (by omega) (by omega),G0a,Q0f (by omega) (by omega),show(1:Int)+(szCs w.cmd_:Int)=((1+szCs w.cmd_:Nat):Int)by omega]
    rw[Q1i (body:=X5r w (K31 n)) w.words_ (λu _ k (s:Int)=>(K31 n u).bind λr=>k (IntKind.wrap .i64 (s+r))) (λs=>some s) (λ_ _ _=>rfl) (by omega)]
    rw[Z4t szW (K31 n) _ w.words_ 0 (1+szCs w.cmd_) (λx d=>f x (by have:=Q6r d;omega) (by have:=Q6r d;omega)) (by omega),X9c,Z1c]
    congr 2
    omega
   show F15 (K15 n) (K31 n) l=_
   have t:=Q7h l
   have hs:=X0t (l:=l)
   rw[F15]
   have body:∀u∈l,∀ (a:Int×Int->Option Int) (i4:Int) (s:Nat),s+szC u<=1000000->((K15 n u.kids_).bind λy=>iter (J8h u (K31 n) a i4) BIG (IntKind.wrap .i64 ((s:Int)+(IntKind.wrap .i64 ((IntKind.wrap .i64 (1+(u.redirs_.length:Int)))+y))),0))=a (((s+szC u:Nat):Int),IntKind.wrap .i64 (i4+1)):=by
    intro u z a i4 s o
    have K:=Q8i z
    have L:=Q3r u
    have M:=X0o u
    have O:=Q7g u.words_
    have Q:=Z0k u.redirs_
    have U:=Z0g u.kids_
    have V:=Z9t u.redirs_
    have W:=Z1c u.words_
    rw[g u.kids_ (by omega) (by omega),G0a,Q0f (n:=1+(u.redirs_.length:Int)) (by omega) (by omega),Q0f (n:=1+(u.redirs_.length:Int)+(szCs u.kids_:Int)) (by omega) (by omega),Q0f (by omega) (by omega),
     show(s:Int)+(1+(u.redirs_.length:Int)+(szCs u.kids_:Int))=((s+(1+u.redirs_.length+szCs u.kids_):Nat):Int)by omega]
    rw[Q1i (body:=J8h u (K31 n) a i4) u.words_ (λv _ k (s:Int)=>(K31 n v).bind λr=>k (IntKind.wrap .i64 (s+r))) (λs=>iter (J3t u (K31 n) a i4) BIG (s,0)) (λ_ _ _=>rfl) (by omega)]
    rw[Z4t szW (K31 n) _ u.words_ 0 _ (λx d=>f x (by have:=Q6r d;omega) (by have:=Q6r d;omega)) (by omega)]
    rw[Q1i (body:=J3t u (K31 n) a i4) u.redirs_ (λ(v:Redir) _ k (s:Int)=>(F32 v).bind λA=>bif A then(K31 n v.word_).bind λC=>k (IntKind.wrap .i64 (s+C))else k s) (λs=>a (s,IntKind.wrap .i64 (i4+1))) (λX i s=>by rw[J3t]) (by omega)]
    rw[w15r (K31 n) a _ u.redirs_ 0 _ (λr p=>f r.word_ (by have:=Z1j p;have:=Z4i r;omega) (by have:=Z1j p;have:=Z4i r;omega)) (by omega)]
    congr 3
    omega
   have E:∀ (m j:Nat) (s:Nat),j<=l.length->l.length-j<m->s+sumL szC (l.drop j)<=1000000->iter (Z9j l (K15 n) (K31 n)) m ((s:Int),(j:Int))=some ((s+sumL szC (l.drop j):Nat):Int):=by
    intro m
    induction m with
    | zero=>intro j s F h;omega
    | succ m H=>
      intro j s F Y o
      show Z9j l (K15 n) (K31 n) (iter (Z9j l (K15 n) (K31 n)) m) ((s:Int),(j:Int))=_
      rw[Z9j]
      by_cases e:j<l.length
      ·rw[Q7m e,sumL]at o
       rw[G0e (by omega),Q0b,Z2k e,G0a,body _ (G2u e) _ _ s (by omega),Q0f (by omega) (by omega)]
       have:=H (j+1) (s+szC l[j]) (by omega) (by omega) (by omega)
       rw[Q7m e,sumL,<-G3b,<-this]
       rfl
      rw[G0d (by omega),Q0a,G2t (by omega)]
      rfl
   have:=E BIG 0 0 (G2l _) (by unfold BIG;omega) (by rw[G3e];omega)
   rw[G3e,G2y,<-Z4n]at this
   exact this
theorem J2u{α R:Type}(f g:α->Nat)(w v:α->Option Int)(fin:Int->Option R):∀ (l:List α) (i:Int) (s:Nat),(∀x∈l,w x=some (f x:Int)/\v x=some (g x:Int))->s+sumL (λx=>f x+g x) l<=1000000->
 Q4z (λu _ k (s:Int)=>(w u).bind λr=>(v u).bind λq=>k (IntKind.wrap .i64 (IntKind.wrap .i64 (s+r)+q))) fin l i (s:Int)=fin ((s+sumL (λx=>f x+g x) l:Nat):Int)
 | [],i,s,_,_=>by rw[Q4z,sumL];rfl
 | x::r,i,s,a,hb=>by
   rw[sumL]at hb
   rw[Q4z,(a x (by simp)).1,G0a,(a x (by simp)).2,G0a,Q0f (n:=(s:Int)+(f x:Int)) (by omega) (by omega),Q0f (by omega) (by omega),show(s:Int)+(f x:Int)+(g x:Int)=((s+(f x+g x):Nat):Int)by omega,J2u f g w v fin r (i+1) _ (λy d=>a y (by simp[d])) (by omega),sumL]
   congr 2
   omega
theorem Z0c(d:Redir):F34 d=some (bif hasW d then[d.word_]else[]):=by
 rw[F34,hasW]
 cases decide (d.kind_=5)<;>cases decide (d.kind_=6)<;>rfl
theorem V9i(r:Redir):szWs (bif hasW r then[r.word_]else[])=szR r:=by
 rw[X9d]
 cases hasW r
 ·rw[Q0a,Q0a,szWs]
 rw[Q0b,Q0b,szWs,szWs,G2j]
theorem nR_t(r:Redir):nWs (bif hasW r then[r.word_]else[])<=nR r:=by
 rw[Z4i]
 cases hasW r
 ·rw[Q0a,nWs];omega
 rw[Q0b,nWs,nWs];omega
theorem J6o{α:Type}(f:α->Nat)(h:α->Nat)(e:∀x,f x=1+h x):∀l:List α,sumL f l=l.length+sumL h l
 | []=>rfl
 | x::r=>by rw[sumL,sumL,J6o f h e r,e,G0h];omega
theorem J6q:∀n:Nat,(∀l:List Word,nWs l<n->nWs l<=40000->K33 n l=some (szWs l:Int))/\(∀l:List Cmd,nCs l<n->nCs l<=40000->K16 n l=some (szCs l:Int))
 | 0=>⟨λ_ h=>by omega,λ_ h=>by omega⟩
 | n+1=>by
   obtain⟨g,t⟩:=J6q n
   refine⟨λl C hb=>?_,λl C hb=>?_⟩
   ·show F33 (K16 n) (K33 n) l=_
    have E:=Q7g l
    have hs:=X0s (l:=l)
    have O:=J6o szW (λw=>szWs w.words_+szCs w.cmd_) (λw=>by rw[X9c];omega) l
    rw[F33,Q1i (body:=X5q l (K33 n) (K16 n)) l (λu _ k (s:Int)=>(K33 n u.words_).bind λr=>(K16 n u.cmd_).bind λq=>k (IntKind.wrap .i64 (IntKind.wrap .i64 (s+r)+q))) (λs=>some s) (λ_ _ _=>rfl) (by omega)]
    rw[J2u (λw=>szWs w.words_) (λw=>szCs w.cmd_) (λu=>K33 n u.words_) (λu=>K16 n u.cmd_) _ l 0 l.length (λx o=>?_) (by omega),Z1c]
    ·congr 2
     omega
    have y:=Q6r o
    have F:=Q6s x
    exact⟨g _ (by omega) (by omega),t _ (by omega) (by omega)⟩
   show F16 (K16 n) (K33 n) l=_
   have E:=Q7h l
   have hs:=X0t (l:=l)
   rw[F16]
   have body:∀u∈l,∀ (a:Int×Int->Option Int) (i4:Int) (s:Nat),s+szC u<=1000000->((K33 n u.words_).bind λH=>(K16 n u.kids_).bind λI=>iter (J8g u (K33 n) a i4) BIG (IntKind.wrap .i64 ((IntKind.wrap .i64 ((IntKind.wrap .i64 ((s:Int)+H))+I))+(u.redirs_.length:Int)),0))=a (((s+(szC u-1):Nat):Int),IntKind.wrap .i64 (i4+1)):=by
    intro u J a i4 s z
    have y:=Q8i J
    have F:=Q3r u
    have Q:=X0o u
    have U:=Z0k u.redirs_
    have V:=Z0g u.kids_
    have W:=Z9t u.redirs_
    rw[g u.words_ (by omega) (by omega),G0a,t u.kids_ (by omega) (by omega),G0a,Q0f (n:=(s:Int)+(szWs u.words_:Int)) (by omega) (by omega),Q0f (n:=(s:Int)+(szWs u.words_:Int)+(szCs u.kids_:Int)) (by omega) (by omega),Q0f (by omega) (by omega),
     show(s:Int)+(szWs u.words_:Int)+(szCs u.kids_:Int)+(u.redirs_.length:Int)=((s+szWs u.words_+szCs u.kids_+u.redirs_.length:Nat):Int)by omega]
    rw[Q1i (body:=J8g u (K33 n) a i4) u.redirs_ (λ(v:Redir) _ k (s:Int)=>(F34 v).bind λp=>(K33 n p).bind λr=>k (IntKind.wrap .i64 (s+r))) (λs=>a (s,IntKind.wrap .i64 (i4+1))) (λ_ _ _=>rfl) (by omega)]
    have e:(λ(v:Redir) (_:Int) (k:Int->Option Int) (s:Int)=>(F34 v).bind λp=>(K33 n p).bind λr=>k (IntKind.wrap .i64 (s+r)))=(λ(v:Redir) (_:Int) (k:Int->Option Int) (s:Int)=>((F34 v).bind (K33 n)).bind λr=>k (IntKind.wrap .i64 (s+r))):=by
     funext v i k s
     rw[Z0c]
     rfl
    rw[e,Z4t szR (λv=>(F34 v).bind (K33 n)) _ u.redirs_ 0 _ (λx o=>?_) (by omega)]
    ·congr 3
     omega
    have X:=Z1j o
    have Y:=nR_t x
    rw[Z0c,G0a,g _ (by omega) (by omega),V9i]
   have K:∀ (m j:Nat) (s:Nat),j<=l.length->l.length-j<m->s+sumL szC (l.drop j)<=1000000->iter (Z9i l (K33 n) (K16 n)) m ((s:Int),(j:Int))=some ((s+(sumL szC (l.drop j)-(l.length-j)):Nat):Int)/\l.length-j<=sumL szC (l.drop j):=by
    intro m
    induction m with
    | zero=>intro j s L h;omega
    | succ m M=>
      intro j s L hm z
      show Z9i l (K33 n) (K16 n) (iter (Z9i l (K33 n) (K16 n)) m) ((s:Int),(j:Int))=_/\_
      rw[Z9i]
      by_cases f:j<l.length
      ·rw[Q7m f,sumL]at z
       rw[G0e (by omega),Q0b,Z2k f,G0a,body _ (G2u f) _ _ s (by omega),Q0f (by omega) (by omega)]
       obtain⟨d,A⟩:=M (j+1) (s+(szC l[j]-1)) (by omega) (by omega) (by omega)
       have y:=X0o l[j]
       rw[Q7m f,sumL]
       refine⟨?_,by omega⟩
       rw[show((j:Int)+1)=((j+1:Nat):Int)by omega,d]
       congr 2
       omega
      rw[G0d (by omega),Q0a,G2t (by omega)]
      refine⟨?_,by omega⟩
      rw[sumL]
      congr 2
      omega
   obtain⟨d,A⟩:=K BIG 0 l.length (G2l _) (by unfold BIG;omega) (by rw[G3e];omega)
   rw[G3e]at d A
   rw[show((0:Nat):Int)=0 from rfl]at d
   rw[d,Z4n]
   congr 2
   omega
mutual
def dW:Word->Nat
 | ⟨_,_,_,a,cs⟩=>max (dWs a) (dCs cs)+1
def dWs:List Word->Nat
 | []=>0
 | w::r=>max (dW w) (dWs r)
def dC:Cmd->Nat
 | ⟨_,_,_,a,rs,ks⟩=>max (max (dCs ks) (dWs a)) (dRs rs)+1
def dCs:List Cmd->Nat
 | []=>0
 | c::r=>max (dC c) (dCs r)
def dR:Redir->Nat
 | ⟨k,_,_,w,_⟩=>bif !decide (k=5)&&!decide (k=6)then dW w else 0
def dRs:List Redir->Nat
 | []=>0
 | r::s=>max (dR r) (dRs s)
end
theorem V6b(w:Word):dW w=max (dWs w.words_) (dCs w.cmd_)+1:=by obtain⟨_,_,_,a,cs⟩:=w;rw[dW]
theorem V6d(c:Cmd):dC c=max (max (dCs c.kids_) (dWs c.words_)) (dRs c.redirs_)+1:=by obtain⟨_,_,_,a,rs,ks⟩:=c;rw[dC]
theorem V6c(r:Redir):dR r=bif hasW r then dW r.word_ else 0:=by obtain⟨_,_,_,w,_⟩:=r;rw[dR,hasW]
theorem J0u:∀l,dWs l=maxL dW l
 | []=>by rw[dWs];rfl
 | x::r=>by rw[dWs,J0u r];rfl
theorem Z6j:∀l,dCs l=maxL dC l
 | []=>by rw[dCs];rfl
 | x::r=>by rw[dCs,Z6j r];rfl
theorem J5g:∀l,dRs l=maxL dR l
 | []=>by rw[dRs];rfl
 | x::r=>by rw[dRs,J5g r];rfl
mutual
theorem X8d:∀w:Word,dW w<=nW w
 | ⟨_,_,_,a,cs⟩=>by
   have:=X4a a
   have:=X4b cs
   rw[dW,nW]
   omega
theorem X4a:∀l:List Word,dWs l<=nWs l
 | []=>by rw[dWs];omega
 | w::r=>by
   have:=X8d w
   have:=X4a r
   rw[dWs,nWs]
   omega
theorem K3w:∀c:Cmd,dC c<=nC c
 | ⟨_,_,_,a,rs,ks⟩=>by
   have:=X4a a
   have:=X4b ks
   have:=K0c rs
   rw[dC,nC]
   omega
theorem X4b:∀l:List Cmd,dCs l<=nCs l
 | []=>by rw[dCs];omega
 | c::r=>by
   have:=K3w c
   have:=X4b r
   rw[dCs,nCs]
   omega
theorem Y5k:∀r:Redir,dR r<=nR r
 | ⟨k,_,_,w,_⟩=>by
   have:=X8d w
   rw[dR,nR]
   cases(!decide (k=5)&&!decide (k=6))
   ·exact G2l _
   exact this
theorem K0c:∀l:List Redir,dRs l<=nRs l
 | []=>by rw[dRs];omega
 | r::s=>by
   have:=Y5k r
   have:=K0c s
   rw[dRs,nRs]
   omega
end
theorem w51r{R:Type}(d:Word->Option Int)(fin:Int->Option R):∀ (l:List Redir) (i:Int) (s:Nat),(∀r∈l,d r.word_=some (dW r.word_:Int))->
 Q4z (λ(u:Redir) _ k (s:Int)=>(F32 u).bind λm=>bif m then(d u.word_).bind λo=>k (imax s o)else k s) fin l i (s:Int)=fin ((max s (maxL dR l):Nat):Int)
 | [],i,s,_=>by rw[Q4z,maxL,G7b]
 | x::r,i,s,e=>by
   have f:=λt=>w51r d fin r (i+1) t (λy p=>e y (by simp[p]))
   have q:=e x (by simp)
   have a:=V6c x
   rw[Q4z,F32,G0a,maxL]
   rw[show(!decide (x.kind_=5)&&!decide (x.kind_=6))=hasW x from rfl]
   cases g:hasW x with
   | true=>
     rw[g,Q0b]at a
     rw[Q0b,q,G0a,Z1o,f,a,G7g]
   | false=>
     rw[g,Q0a]at a
     rw[Q0a,f,a,G7h]
theorem J7m:∀n:Nat,(∀w:Word,nW w<n->nW w<=40000->K86 n w=some (dW w:Int))/\(∀c:Cmd,nC c<n->nC c<=40000->K51 n c=some (dC c:Int))
 | 0=>⟨λ_ h=>by omega,λ_ h=>by omega⟩
 | n+1=>by
   obtain⟨d,f⟩:=J7m n
   refine⟨λw l hb=>?_,λc l hb=>?_⟩
   ·show F86 (K51 n) (K86 n) w=_
    have m:=Q6s w
    have o:=Q7g w.words_
    have p:=Q7h w.cmd_
    have q:=X8d w
    rw[F86,Q1i (body:=X5h w (K86 n) (K51 n)) w.words_ (λv _ k (s:Int)=>(K86 n v).bind λr=>k (imax s r)) (λs=>iter (J7y w (K51 n)) BIG (s,0)) (λ_ _ _=>rfl) (by omega)]
    rw[show(0:Int)=((0:Nat):Int) from rfl,Q7i dW (K86 n) _ w.words_ _ 0 (λx a=>d x (by have:=Q6r a;omega) (by have:=Q6r a;omega))]
    rw[show((0:Nat):Int)=0 from rfl,Q1i (body:=J7y w (K51 n)) w.cmd_ (λv _ k (s:Int)=>(K51 n v).bind λr=>k (imax s r)) (λs=>some (IntKind.wrap .i64 (s+1))) (λ_ _ _=>rfl) (by omega)]
    rw[Q7i dC (K51 n) _ w.cmd_ _ _ (λx a=>f x (by have:=Q8i a;omega) (by have:=Q8i a;omega))]
    have e:=V6b w
    rw[J0u,Z6j]at e
    rw[Q0f (by omega) (by omega)]
    congr 1
    omega
   show F51 (K51 n) (K86 n) c=_
   have m:=Q3r c
   have o:=Q7g c.words_
   have p:=Q7h c.kids_
   have y:=Z0k c.redirs_
   have q:=K3w c
   rw[F51,Q1i (body:=X5m c (K51 n) (K86 n)) c.kids_ (λv _ k (s:Int)=>(K51 n v).bind λr=>k (imax s r)) (λs=>iter (J8b c (K86 n)) BIG (s,0)) (λ_ _ _=>rfl) (by omega)]
   rw[show(0:Int)=((0:Nat):Int) from rfl,Q7i dC (K51 n) _ c.kids_ _ 0 (λx a=>f x (by have:=Q8i a;omega) (by have:=Q8i a;omega))]
   rw[show((0:Nat):Int)=0 from rfl,Q1i (body:=J8b c (K86 n)) c.words_ (λv _ k (s:Int)=>(K86 n v).bind λr=>k (imax s r)) (λs=>iter (J3o c (K86 n)) BIG (s,0)) (λ_ _ _=>rfl) (by omega)]
   rw[Q7i dW (K86 n) _ c.words_ _ _ (λx a=>d x (by have:=Q6r a;omega) (by have:=Q6r a;omega))]
   rw[Q1i (body:=J3o c (K86 n)) c.redirs_ (λ(v:Redir) _ k (s:Int)=>(F32 v).bind λt=>bif t then(K86 n v.word_).bind λu=>k (imax s u)else k s) (λs=>some (IntKind.wrap .i64 (s+1))) (λz i s=>by rw[J3o]) (by omega)]
   rw[w51r (K86 n) _ c.redirs_ _ _ (λr g=>d r.word_ (by have:=Z1j g;have:=Z4i r;omega) (by have:=Z1j g;have:=Z4i r;omega))]
   have e:=V6d c
   rw[J0u,Z6j,J5g]at e
   rw[Q0f (by omega) (by omega)]
   congr 1
   omega
theorem dR_t(r:Redir):dWs (bif hasW r then[r.word_]else[])=dR r:=by
 rw[V6c]
 cases hasW r
 ·rw[Q0a,Q0a,dWs]
 rw[Q0b,Q0b,dWs,dWs,G7b]
theorem J1y:∀n:Nat,(∀l:List Word,nWs l<n->nWs l<=40000->K61 n l=some (dWs l:Int))/\(∀l:List Cmd,nCs l<n->nCs l<=40000->K25 n l=some (dCs l:Int))
 | 0=>⟨λ_ h=>by omega,λ_ h=>by omega⟩
 | n+1=>by
   obtain⟨g,y⟩:=J1y n
   refine⟨λl A hb=>?_,λl A hb=>?_⟩
   ·show F61 (K25 n) (K61 n) l=_
    have C:=Q7g l
    rw[F61,Q1i (body:=X5k l (K61 n) (K25 n)) l (λu _ k (s:Int)=>(K61 n u.words_).bind λr=>(K25 n u.cmd_).bind λq=>k (imax s (IntKind.wrap .i64 (1+(imax r q))))) (λs=>some s) (λ_ _ _=>rfl) (by omega)]
    have e:(λ(u:Word) (_:Int) (k:Int->Option Int) (s:Int)=>(K61 n u.words_).bind λr=>(K25 n u.cmd_).bind λq=>k (imax s (IntKind.wrap .i64 (1+(imax r q)))))=(λ(u:Word) (_:Int) (k:Int->Option Int) (s:Int)=>((K61 n u.words_).bind λr=>(K25 n u.cmd_).bind λq=>some (IntKind.wrap .i64 (1+(imax r q)))).bind λr=>k (imax s r)):=by
     funext u i k s
     rw[G5z]
     congr 1
     funext r
     rw[G5z]
     rfl
    rw[e,show(0:Int)=((0:Nat):Int) from rfl,Q7i dW _ _ l _ 0 (λx o=>?_),G7h,J0u]
    have E:=Q6r o
    have F:=Q6s x
    have z:=X8d x
    have O:=V6b x
    rw[g _ (by omega) (by omega),G0a,y _ (by omega) (by omega),G0a,Z1o,Q0f (by omega) (by omega)]
    congr 1
    omega
   show F25 (K25 n) (K61 n) l=_
   have C:=Q7h l
   rw[F25]
   have body:∀u∈l,∀ (a:Int×Int->Option Int) (i4:Int) (s:Nat),((K61 n u.words_).bind λH=>(K25 n u.kids_).bind λI=>iter (J8c u (K61 n) a (s:Int) i4) BIG (imax H I,0))=a (((max s (dC u):Nat):Int),IntKind.wrap .i64 (i4+1)):=by
    intro u J a i4 s
    have E:=Q8i J
    have F:=Q3r u
    have z:=V6d u
    have Q:=Z0k u.redirs_
    have U:=K3w u
    rw[g u.words_ (by omega) (by omega),G0a,y u.kids_ (by omega) (by omega),G0a,Z1o]
    rw[Q1i (body:=J8c u (K61 n) a (s:Int) i4) u.redirs_ (λ(v:Redir) _ k (s:Int)=>(F34 v).bind λp=>(K61 n p).bind λr=>k (imax s r)) (λd=>a (imax (s:Int) (IntKind.wrap .i64 (1+d)),IntKind.wrap .i64 (i4+1))) (λ_ _ _=>rfl) (by omega)]
    have e:(λ(v:Redir) (_:Int) (k:Int->Option Int) (s:Int)=>(F34 v).bind λp=>(K61 n p).bind λr=>k (imax s r))=(λ(v:Redir) (_:Int) (k:Int->Option Int) (s:Int)=>((F34 v).bind (K61 n)).bind λr=>k (imax s r)):=by
     funext v i k s
     rw[Z0c]
     rfl
    rw[e,Q7i dR (λv=>(F34 v).bind (K61 n)) _ u.redirs_ 0 _ (λx o=>?_)]
    ·rw[J5g]at z
     rw[Q0f (by omega) (by omega),show(1:Int)+((max (max (dWs u.words_) (dCs u.kids_)) (maxL dR u.redirs_):Nat):Int)=((dC u:Nat):Int)by omega,Z1o]
    have V:=Z1j o
    have W:=nR_t x
    rw[Z0c,G0a,g _ (by omega) (by omega),dR_t]
   have K:∀ (m j:Nat) (s:Nat),j<=l.length->l.length-j<m->iter (Z9d l (K61 n) (K25 n)) m ((s:Int),(j:Int))=some ((max s (maxL dC (l.drop j)):Nat):Int):=by
    intro m
    induction m with
    | zero=>intro j s L h;omega
    | succ m M=>
      intro j s L X
      show Z9d l (K61 n) (K25 n) (iter (Z9d l (K61 n) (K25 n)) m) ((s:Int),(j:Int))=_
      rw[Z9d]
      by_cases t:j<l.length
      ·rw[G0e (by omega),Q0b,Z2k t,G0a,body _ (G2u t) _ _ s,Q0f (by omega) (by omega)]
       have f:=M (j+1) (max s (dC l[j])) (by omega) (by omega)
       rw[Q7m t,maxL]
       rw[show((j:Int)+1)=((j+1:Nat):Int)by omega,f,G7g]
      rw[G0d (by omega),Q0a,G2t (by omega),maxL,G7b]
   have f:=K BIG 0 0 (G2l _) (by unfold BIG;omega)
   rw[G3e,G7h,<-Z6j]at f
   exact f
theorem X2h{α:Type}(f:α->Nat)(b:Nat):∀l:List α,decide (maxL f l<=b)=!(l.any λx=>decide (b<f x))
 | []=>by rw[maxL];simp
 | x::r=>by
   rw[maxL,List.any_cons,Bool.not_or,<-X2h f b r]
   by_cases a:b<f x
   ·rw[G0e a,G0d (by omega)];rfl
   rw[G0d a]
   show _=(true&&_)
   rw[G1i]
   congr 1
   exact propext ⟨λh=>by omega,λh=>by omega⟩
theorem V8y(l:List Cmd)(hb:nCs l<=40000):F21 l=some (decide (szCs l<=1024)&&decide (dCs l<=32)):=by
 have g:=Q7h l
 rw[F21,(X1f BIG).2 l (by unfold BIG;omega) hb,G0a]
 by_cases a:szCs l<=1024
 ·rw[G0e (p:=((szCs l:Int)<=1024)) (by omega),Q0b,G0e a,G1i,F49,F85]
  rw[Q9l (body:=X5i l) l (λu i k=>(F50 u).bind λr=>bif r then some i else k) (some (-1)) (λ_ _=>rfl) (by omega)]
  obtain⟨r,d,e⟩:=J7b (λc=>decide (32<dC c)) F50 l 0 (λx f=>by
   have m:=Q8i f
   rw[F50,(J7m BIG).2 x (by unfold BIG;omega) (by omega),G0a]
   congr 1
   exact G5m.2 (by omega))
  rw[show((0:Nat):Int)=0 from rfl]at d
  rw[d,G0a,G0a,e,Z6j,X2h]
 rw[G0d (p:=((szCs l:Int)<=1024)) (by omega),Q0a,G0d a,G1o]
end Go.Abs.U48
namespace Go.Abs.U48
open Go Go.Proofs
def isnc(c:Int):Bool:=((((decide (97<=c)&&decide (c<=122))||(decide (65<=c)&&decide (c<=90)))||(decide (48<=c)&&decide (c<=57)))||decide (c=95))||decide (c=42)
def Q3q(s:Str):Bool:=(s.map B).all isnc&&!decide (s=[])
theorem X6e(s:Str)(a:s.length<=9223372036854775807):F172 s=some (Q3q s):=by
 rw[F172,Q7j (body:=J5y s) s (λc _ k=>(some (isnc c)).bind λr=>bif !r then some false else k) (some (!decide (s=[]))) (λ_ _=>rfl) a]
 exact J0i isnc (λc=>some (isnc c)) _ (s.map B) 0 (λ_ _=>rfl)
theorem X7n(c:Int):(((((decide (c<97)||decide (122<c))&&(decide (c<65)||decide (90<c)))&&(decide (c<48)||decide (57<c)))&&!decide (c=95))&&!decide (c=42))=!isnc c:=by
 have h:∀a b:Int,decide (a<b)=!decide (b<=a):=λa b=>by
  by_cases h:a<b
  ·rw[G0e h,G0d (by omega)];rfl
  rw[G0d h,G0e (by omega)];rfl
 rw[isnc,h c 97,h 122 c,h c 65,h 90 c,h c 48,h 57 c]
 simp only[Bool.not_or,Bool.not_and]
theorem J6a(s:Str)(a:s.length<=9223372036854775807):F144 s=some (Q3q s):=by
 rw[F144,Q7j (body:=J1l s) s (λc _ k=>(some (isnc c)).bind λr=>bif !r then some false else k) (some (!decide (s=[]))) (λd i=>by
  rw[J1l]
  simp only[X7n]
  rfl) a]
 exact J0i isnc (λc=>some (isnc c)) _ (s.map B) 0 (λ_ _=>rfl)
def Q2u(q:Str):Bool:=q.contains 49
theorem Z3a(q:Str)(a:q.length<=9223372036854775807):F171 q=some (Q2u q):=by
 rw[F171,Q7j (body:=J5z q) q (λc _ k=>bif decide (c=49)then some true else k) (some false) (λ_ _=>rfl) a]
 have:∀ (q:Str) (i:Int),Q4d (λ(c:Int) _ k=>bif decide (c=49)then some true else k) (some false) (q.map B) i=some (Q2u q):=by
  intro q
  induction q with
  | nil=>intro i;rfl
  | cons c r d=>
    intro i
    rw[G2g,Q4d,Q2u,G4e]
    have hb:=Q2c c 49
    rw[show decide (B c=49)=decide (c=49) from hb]
    by_cases h:c=49
    ·subst h;rfl
    rw[G0d h,Q0a,d,Q2u]
    have:((49:UInt8)==c)=false:=by rw[beq_eq_false_iff_ne];exact λe=>h e.symm
    rw[this,G1p]
 exact this q 0
theorem X3a(q:Str)(c:UInt8):decide (Lib.indexByte q c<0)=!q.contains c:=by
 rw[Lib.contains_iff_indexByte]
 by_cases h:Lib.indexByte q c<0
 ·rw[G0e h,G0d (by omega)];rfl
 rw[G0d h,G0e (by omega)];rfl
theorem Z0a(q:Str):Q0h q 49=some (Lib.indexByte q 49):=rfl
def keyB(s:Str):Bool:=((((((decide (s=[105,102])||decide (s=[119,104,105,108,101]))||decide (s=[102,111,114]))||decide (s=[115,119,105,116,99,104]))||decide (s=[99,97,115,101]))||decide (s=[102,110]))||decide (s=[126]))
theorem X6a(s:Str):F187 s=some (keyB s):=rfl
theorem contains_cons(b:UInt8)(l sub:Str):Lib.contains (b::l) sub=(sub.isPrefixOf (b::l)||Lib.contains l sub):=by
 unfold Lib.contains
 cases d:sub.isPrefixOf (b::l)with
 | true=>
   have:Lib.index (b::l) sub=0:=by unfold Lib.index;rw[if_pos d]
   rw[this];rfl
 | false=>
   rw[G1p]
   rcases Lib.index_spec l sub with⟨a,_⟩|⟨i,a,_⟩
   ·have:Lib.index (b::l) sub=-1:=by unfold Lib.index;rw[d,a];rfl
    rw[this,a]
   have:Lib.index (b::l) sub=i+1:=by
    unfold Lib.index
    rw[d,a]
    have:((i:Int)==-1)=false:=by rw[beq_eq_false_iff_ne];omega
    simp[this]
   rw[this,a,G0e (by omega),G0e (by omega)]
theorem contains_nil(b:UInt8)(sub:Str):Lib.contains [] (b::sub)=false:=rfl
theorem X9j:∀ (s w r:Str),(32:UInt8)∉s->(32:UInt8)∉w->List.isPrefixOf (s++[32]) (w++32::r)=decide (s=w)
 | [],[],r,_,_=>by simp[List.isPrefixOf]
 | [],b::w,r,_,d=>by
   have:¬ (32:UInt8)=b:=λe=>d (by simp[e])
   simp[List.isPrefixOf,this]
 | a::s,[],r,hs,_=>by
   have:¬ a=(32:UInt8):=λe=>hs (by simp[e])
   simp[List.isPrefixOf,this]
 | a::s,b::w,r,hs,d=>by
   have f:=X9j s w r (λh=>hs (by simp[h])) (λh=>d (by simp[h]))
   rw[G3a,G3a,List.isPrefixOf,f]
   by_cases h:a=b
   ·subst h
    simp
   simp[h]
theorem K2e(s:Str):List.isPrefixOf (s++[32]) []=false:=by cases s<;>rfl
theorem X2a(b:UInt8)(x l:Str)(h:((32:UInt8)==b)=false):List.isPrefixOf (32::x) (b::l)=false:=by
 rw[List.isPrefixOf,h,G1o]
theorem K6d(x l:Str):List.isPrefixOf (32::x) (32::l)=x.isPrefixOf l:=by
 rw[List.isPrefixOf]
 rfl
def kwsB(s:Str):Bool:=decide (s=[105,102])||(decide (s=[110,111,116])||(decide (s=[119,104,105,108,101])||(decide (s=[102,111,114])||(decide (s=[105,110])||(decide (s=[115,119,105,116,99,104])||(decide (s=[99,97,115,101])||(decide (s=[102,110])||decide (s=[126]))))))))
theorem J4u(s:Str)(h:(32:UInt8)∉s):Lib.contains [32,105,102,32,110,111,116,32,119,104,105,108,101,32,102,111,114,32,105,110,32,115,119,105,116,99,104,32,99,97,115,101,32,102,110,32,126,32] (32::(s++[32]))=kwsB s:=by
 have p:=λ(w r:Str) x=>X9j s w r h x
 have d:=p [105,102] [110,111,116,32,119,104,105,108,101,32,102,111,114,32,105,110,32,115,119,105,116,99,104,32,99,97,115,101,32,102,110,32,126,32] (by decide)
 have f:=p [110,111,116] [119,104,105,108,101,32,102,111,114,32,105,110,32,115,119,105,116,99,104,32,99,97,115,101,32,102,110,32,126,32] (by decide)
 have g:=p [119,104,105,108,101] [102,111,114,32,105,110,32,115,119,105,116,99,104,32,99,97,115,101,32,102,110,32,126,32] (by decide)
 have k:=p [102,111,114] [105,110,32,115,119,105,116,99,104,32,99,97,115,101,32,102,110,32,126,32] (by decide)
 have m:=p [105,110] [115,119,105,116,99,104,32,99,97,115,101,32,102,110,32,126,32] (by decide)
 have o:=p [115,119,105,116,99,104] [99,97,115,101,32,102,110,32,126,32] (by decide)
 have q:=p [99,97,115,101] [102,110,32,126,32] (by decide)
 have t:=p [102,110] [126,32] (by decide)
 have u:=p [126] [] (by decide)
 simp only[G3a,G1y]at d f g k m o q t u
 have e:∀b:UInt8,((32:UInt8)==b)=false->∀l,Lib.contains (b::l) (32::(s++[32]))=Lib.contains l (32::(s++[32])):=λb hb l=>by rw[contains_cons,X2a b _ l hb,G1p]
 have a:∀l,Lib.contains (32::l) (32::(s++[32]))=(List.isPrefixOf (s++[32]) l||Lib.contains l (32::(s++[32]))):=λl=>by rw[contains_cons,K6d]
 rw[a,d,e 105 rfl,e 102 rfl,a,f,e 110 rfl,e 111 rfl,e 116 rfl,a,g,e 119 rfl,e 104 rfl,e 105 rfl,e 108 rfl,e 101 rfl,a,k,e 102 rfl,e 111 rfl,e 114 rfl,a,m,e 105 rfl,e 110 rfl,a,o,e 115 rfl,e 119 rfl,e 105 rfl,e 116 rfl,e 99 rfl,e 104 rfl,a,q,e 99 rfl,e 97 rfl,e 115 rfl,e 101 rfl,a,t,e 102 rfl,e 110 rfl,a,u,e 126 rfl,a,K2e,contains_nil,G2n,G2n]
 rfl
theorem X2r{s:Str}(h:kwsB s=true):(32:UInt8)∉s/\s≠[]:=by
 simp only[kwsB,G2r,G0s]at h
 rcases h with rfl|rfl|rfl|rfl|rfl|rfl|rfl|rfl|rfl<;>decide
theorem Q0g{α:Type}[Inhabited α](x:Option α):Q0e true x=x:=rfl
theorem Q1s{α:Type}[Inhabited α](x:Option α):Q0e false x=some default:=rfl
theorem K5i(s:Str)(g:s.length<=4000000000):F134 s=some (kwsB s):=by
 rw[F134]
 by_cases d:s=[]
 ·subst d
  rfl
 rw[G0d d,G0q]
 show(Q0h s 32).bind _=_
 rw[Q0h,G0a]
 have e:=X3a s 32
 rw[show(32:Int).toNat.toUInt8=(32:UInt8) from rfl]
 rw[e]
 by_cases a:(32:UInt8)∈s
 ·have:s.contains 32=true:=G7c.2 a
  rw[this]
  have f:kwsB s=false:=by
   cases h:kwsB s
   ·rfl
   exact absurd a (X2r h).1
  rw[f]
  rfl
 have:s.contains 32=false:=by
  cases h:s.contains 32
  ·rfl
  exact absurd (G7c.1 h) a
 rw[this]
 show(catO [32] s).bind _=_
 rw[catO,if_pos (by simp;omega),G0a]
 show(catO ([32]++s) [32]).bind _=_
 rw[catO,if_pos (by simp;omega),G0a]
 rw[G0q,G1i,Q0g,Q5f,if_pos (by decide),G0a,show([32]++s++[32]:Str)=32::(s++[32]) from rfl,J4u s a]
 rfl
def spcB(c:Int):Bool:=(decide (c=32)||(decide (c=9)||(decide (c=10)||(decide (c=59)||(decide (c=38)||(decide (c=124)||(decide (c=40)||(decide (c=41)||(decide (c=123)||(decide (c=125)||(decide (c=60)||(decide (c=62)||(decide (c=61)||(decide (c=94)||(decide (c=96)||(decide (c=36)||decide (c=39)))))))))))))))))
def mkB(q:UInt8):Bool:=decide (B q=48)||decide (B q=49)
def okQ(p:UInt8×UInt8):Bool:=mkB p.1&&!(decide (B p.1=48)&&spcB (B p.2))
def Y0k:Str->Str->Bool
 | a::_,c::_=>decide (B a=49)||!(decide (B c=35)||(decide (B c=33)||decide (B c=64)))
 | _,_=>true
def V9h(t q:Str):Bool:=decide (q.length=t.length)&&((q.zip t).all okQ&&Y0k q t)
end Go.Abs.U48
namespace Go.Abs.U48
open Go Go.Proofs
def eT:Token:=Token.mk 0 0 [] []
def tp(T:List Token)(i:Int):Token:=T.getD i.toNat eT
def atf(S:Str)(T:List Token)(i:Int):Int:=if i<T.length then(tp T i).at_ else S.length
def isT(t:Token)(s:Str):Bool:=decide (t.kind_=2)&&decide (t.text_=s)
theorem X3l(T:List Token)(n:Nat)(d e:Token):T.getD n d=if n<T.length then T.getD n e else d:=by
 by_cases h:n<T.length
 ·rw[if_pos h,G0v,G0v,G0c h]
  rfl
 rw[if_neg h,G0v,G1a (by omega)]
 rfl
theorem Z0y{T:List Token}{i:Int}(h:(T.length:Int)<=i):tp T i=eT:=by
 rw[tp,X3l _ _ _ eT,if_neg (by omega)]
theorem Q8j{T:List Token}{i:Int}(a:0<=i)(h:i<T.length):lidx T i=some (tp T i):=by
 have d:i.toNat<T.length:=by omega
 rw[lidx,if_pos a,tp,G0v,G0c d]
 rfl
section
variable {S:Str}{T:List Token}{D:List Str}{i:Int}
theorem wr1(a:0<=i)(h:i<=4611686018427387904):IntKind.wrap .i64 (i+1)=i+1:=Q0f (by omega) (by omega)
theorem wr2(a:0<=i)(h:i<=4611686018427387904):IntKind.wrap .i64 (i+2)=i+2:=Q0f (by omega) (by omega)
theorem V8h(k:Int)(hk:0<=k/\k<=1)(d:0<=i)(h:i<=4611686018427387904):F84 k S T D i=some (tp T (i+k)):=by
 rw[F84,Q0f (by omega) (by omega)]
 by_cases a:(T.length:Int)<=i+k
 ·rw[G0e a,Q0b,Z0y a]
  rfl
 rw[G0d a,Q0a,Q8j (by omega) (by omega),G0a]
theorem Q1t(a:0<=i)(h:i<=4611686018427387904):F84 0 S T D i=some (tp T i):=by
 rw[V8h 0 (by omega) a h,Int.add_zero]
theorem K4t(a:0<=i)(h:i<=4611686018427387904):F84 1 S T D i=some (tp T (i+1)):=V8h 1 (by omega) a h
theorem Q2l(x y:Int)(d:0<=i):∃t,F59 S T D i x y=some t/\t.kind_=(tp T i).kind_/\t.text_=(tp T i).text_/\t.quoted_=(tp T i).quoted_/\t.at_=atf S T i:=by
 rw[F59,atf]
 by_cases a:i<(T.length:Int)
 ·rw[G0e a,Q0b,Q8j d a,G0a,if_pos a]
  exact⟨_,rfl,rfl,rfl,rfl,rfl⟩
 rw[G0d a,Q0a,if_neg a,Z0y (by omega)]
 exact⟨_,rfl,rfl,rfl,rfl,rfl⟩
theorem Z6z(x y:Int)(a:0<=i)(h:i<T.length):F59 S T D i x y=some (tp T i):=by
 rw[F59,G0e h,Q0b,Q8j a h,G0a]
theorem Z3d(t:Token)(s:Str):F128 t s=some (isT t s):=rfl
theorem J1n(s:Str)(a:0<=i)(h:i<=4611686018427387904):F127 s S T D i=some (isT (tp T i) s):=by
 rw[F127,Q1t a h,G0a,Z3d,G0a]
theorem Q1m(s:Str)(x y:Int)(a:0<=i):F58 s S T D i x y=some (isT (tp T i) s):=by
 obtain⟨t,e,d,f,g,-⟩:=Q2l (S:=S) (T:=T) (D:=D) x y a
 rw[F58,e,G0a,isT,d,f]
theorem Z1y(y:Int)(a:0<=i):F60 S T D i 0 y=some (47,atf S T i):=by
 obtain⟨t,e,-,-,-,d⟩:=Q2l (S:=S) (T:=T) (D:=D) 47 y a
 rw[F60,G0e rfl,Q0b,e,G0a,d]
theorem J8a(y:Int):F60 S T D i 47 y=some (47,y):=rfl
theorem Q8x(d:0<=i):F48 S T D i=some (.inl (atf S T i)):=by
 rw[F48,atf]
 by_cases a:i<(T.length:Int)
 ·rw[G0e a,Q0b,Q8j d a,G0a,if_pos a]
 rw[G0d a,Q0a,if_neg a]
def plT(t:Token):Bool:=decide (t.kind_=1)&&!Q2u t.quoted_
def kwT(t:Token):Str:=bif plT t&&kwsB t.text_ then t.text_ else[]
def keyT(t:Token)(s:Str):Bool:=(decide (t.kind_=1)&&decide (t.text_=s))&&!Q2u t.quoted_
def bW(t:Token):Bool:=decide (t.kind_=1)||(((isT t [36]||isT t [36,35])||isT t [40])||isT t [96])
def c0(s:Str):Int:=(s.head?.map B).getD 0
def bR(t:Token):Bool:=decide (t.kind_=4)||(decide (t.kind_=2)&&(decide (c0 t.text_=60)||decide (c0 t.text_=62)))
def bC(t:Token):Bool:=(((bW t||bR t)||isT t [33])||isT t [64])||isT t [123]
def asg(T:List Token)(i:Int):Bool:=(plT (tp T i)&&Q3q (tp T i).text_)&&isT (tp T (i+1)) [61]
theorem Z7o(t:Token):F133 t=some (plT t):=by
 rw[F133,plT]
 cases decide (t.kind_=1)with
 | false=>rfl
 | true=>
   rw[Q0g,Z0a,G0a,X3a]
   rfl
structure OkT(T:List Token):Prop where
 len:T.length<=1000000
 txt:∀t∈T,t.text_.length<=1000000/\t.quoted_.length<=1000000
 sym:∀t∈T,t.kind_=2->t.text_≠[]
theorem X9a{T:List Token}{i:Int}:tp T i∈T\/tp T i=eT:=by
 by_cases h:i.toNat<T.length
 ·left
  rw[tp,G0v,G0c h]
  exact G2u h
 right
 rw[tp,X3l _ _ _ eT,if_neg h]
theorem OkT.tl(h:OkT T)(i:Int):(tp T i).text_.length<=1000000/\(tp T i).quoted_.length<=1000000/\((tp T i).kind_=2->(tp T i).text_≠[]):=by
 rcases X9a (T:=T) (i:=i)with a|a
 ·exact⟨(h.txt _ a).1,(h.txt _ a).2,h.sym _ a⟩
 rw[a]
 exact⟨by decide,by decide,λe=>by cases e⟩
theorem Z6w{t:Token}(h:t.text_.length<=1000000):F83 t=some (kwT t):=by
 rw[F83,Z7o,G0a,kwT]
 cases plT t with
 | false=>rfl
 | true=>
   rw[Q0g,K5i _ (by omega),G0a,G1i]
   cases kwsB t.text_<;>rfl
theorem K5y{s:Str}(h:s≠[]):sidx s 0=some (c0 s):=by
 cases s with
 | nil=>exact absurd rfl h
 | cons c r=>rfl
theorem J1m{t:Token}(h:t.kind_=2->t.text_≠[]):F130 t=some (bR t):=by
 rw[F130,bR]
 by_cases a:t.kind_=2
 ·have d:¬ t.kind_=4:=by omega
  rw[G0e a,G0d d]
  simp only[G0q,G3o,Q0g,K5y (h a),G0a]
 rw[G0d a]
 cases decide (t.kind_=4)<;>rfl
theorem J1k(x y:Int)(f:OkT T)(g:0<=i):F178 S T D i x y=some (bR (tp T i)):=by
 obtain⟨t,e,a,d,k,-⟩:=Q2l (S:=S) (T:=T) (D:=D) x y g
 rw[F178,e,G0a]
 have hb:bR t=bR (tp T i):=by rw[bR,bR,a,d]
 have:=J1m (t:=t) (by rw[a,d];exact(f.tl i).2.2)
 rw[F130]at this
 rw[this,hb]
theorem Q5n(t:Token):F129 t=some (bW t):=by
 rw[F129,bW]
 cases decide (t.kind_=1)with
 | true=>rfl
 | false=>
   simp only[Z3d,G0a,Q0a,G1p]
   cases isT t [36]<;>simp only[G0q,G0u,Q0g,Q1s,G0a,G3d,G1p,G5r]
   cases isT t [36,35]<;>simp only[G0q,G0u,Q0g,Q1s,G0a,G3d,G1p]
   cases isT t [40]<;>simp only[G0q,G0u,Q0g,Q1s,G0a,G3d,G1p]
theorem Z7k(x y:Int)(a:0<=i):F203 S T D i x y=some (bW (tp T i)):=by
 obtain⟨t,e,d,f,g,-⟩:=Q2l (S:=S) (T:=T) (D:=D) x y a
 simp only[F203,e,G0a,Q1m _ _ _ a,d,bW]
 cases decide ((tp T i).kind_=1)<;>cases isT (tp T i) [36]<;>cases isT (tp T i) [36,35]<;>cases isT (tp T i) [40]<;>cases isT (tp T i) [96]<;>rfl
theorem K4u(a:OkT T)(d:0<=i)(h:i<=4611686018427387904):F81 false S T D i=some (bC (tp T i)):=by
 simp only[F81,Q1t d h,G0a,Q1s,G1o,Q0a,Q5n,J1m (a.tl i).2.2,Z3d,bC]
 cases bW (tp T i)<;>simp only[G0q,G0u,Q0g,Q1s,G0a,G3d,G1p,G5r]
 cases bR (tp T i)<;>simp only[G0q,G0u,Q0g,Q1s,G0a,G3d,G1p]
 cases isT (tp T i) [33]<;>simp only[G0q,G0u,Q0g,Q1s,G0a,G3d,G1p]
 cases isT (tp T i) [64]<;>simp only[G0q,G0u,Q0g,Q1s,G0a,G3d,G1p]
theorem K5h(x y:Int)(d:OkT T)(a:0<=i):F176 S T D i x y=some (bC (tp T i)):=by
 simp only[F176,Q1m _ _ _ a,Z7k _ _ a,J1k _ _ d a,G0a,bC]
 cases bW (tp T i)<;>cases bR (tp T i)<;>cases isT (tp T i) [33]<;>cases isT (tp T i) [64]<;>cases isT (tp T i) [123]<;>rfl
theorem Z0v(s:Str)(x y:Int)(a:OkT T)(d:0<=i):F140 s S T D i x y=some (keyT (tp T i) s):=by
 obtain⟨t,e,f,g,k,-⟩:=Q2l (S:=S) (T:=T) (D:=D) x y d
 rw[F140,e,G0a,keyT,f,g,k]
 cases decide ((tp T i).kind_=1)&&decide ((tp T i).text_=s)with
 | false=>rfl
 | true=>
   rw[Q0g,Z3a _ (by have:=(a.tl i).2.1;omega),G0a]
theorem J6b(x y:Int)(d:OkT T)(f:0<=i)(h:i<=4611686018427387904):F141 S T D i x y=some (asg T i):=by
 obtain⟨t,e,g,k,l,-⟩:=Q2l (S:=S) (T:=T) (D:=D) x y f
 rw[F141,e,G0a,asg,g,k,l,plT,wr1 f h]
 cases decide ((tp T i).kind_=1)with
 | false=>rfl
 | true=>
   rw[Q0g,Z3a _ (by have:=(d.tl i).2.1;omega),G0a]
   cases Q2u (tp T i).quoted_ with
   | true=>rfl
   | false=>
     simp only[G0u,G2n,G0q,Q0g]
     rw[X6e _ (by have:=(d.tl i).1;omega),G0a]
     cases Q3q (tp T i).text_ with
     | false=>rfl
     | true=>
       simp only[G0u,G1p,G1i]
       by_cases a:(T.length:Int)<=i+1
       ·rw[G0e a,Q0b,Z0y a]
        rfl
       rw[G0d a,Q0a,Q8j (by omega) (by omega),G0a]
       rfl
theorem Q4g{t:Token}{s:Str}(hk:kwsB s=true):decide (kwT t=s)=keyT t s:=by
 have hs:=(X2r hk).2
 rw[kwT,keyT,plT]
 by_cases a:t.text_=s
 ·rw[a,hk,G0e rfl]
  cases decide (t.kind_=1)<;>cases Q2u t.quoted_<;>simp[hs]<;>exact λe=>hs e.symm
 rw[G0d a]
 simp only[G2d,G1o]
 rw[G0d]
 intro e
 cases d:(decide (t.kind_=1)&&!Q2u t.quoted_)&&kwsB t.text_ with
 | true=>rw[d,Q0b]at e;exact a e
 | false=>rw[d,Q0a]at e;exact hs e.symm
def csT(T:List Token)(i:Int):Bool:=keyT (tp T i) [99,97,115,101]&&!isT (tp T (i+1)) [61]
theorem V8f(x y:Int)(a:OkT T)(d:0<=i)(h:i<=4611686018427387904):F95 S T D i x y=some (csT T i):=by
 rw[F95,Z0v _ x y a d,G0a,csT]
 cases hk:keyT (tp T i) [99,97,115,101]with
 | false=>rfl
 | true=>
   rw[Q0b,J6b _ _ a d h,G0a,asg]
   rw[keyT]at hk
   simp only[G0k,G0s,G4q]at hk
   rw[plT,hk.1.1,hk.1.2,hk.2]
   rfl
theorem Y6u(e:OkT T)(a:0<=i)(h:i<=4611686018427387904):F81 true S T D i=some (!csT T i&&bC (tp T i)):=by
 have hk:kwsB [99,97,115,101]=true:=by kernel_rfl
 have d:=K4u (S:=S) (D:=D) e a h
 simp only[F81,Q1t a h,G0a,Q1s,G1o,Q0a]at d
 simp only[F81,Q1t a h,G0a,Q0g,Z6w (e.tl i).1,G1i,Q4g hk,K4t a h,Z3d (tp T (i+1)),csT]
 cases keyT (tp T i) [99,97,115,101]with
 | false=>
   rw[Q0a,d]
   rfl
 | true=>
   rw[Q0b]
   cases isT (tp T (i+1)) [61]with
   | true=>
     simp only[G0u,Q0a]
     rw[d]
     rfl
   | false=>rfl
theorem J3y{T:List Token}{i:Int}(h:(tp T i).kind_≠0)(d:0<=i):i<T.length:=by
 rcases G6e i T.length with a|a
 ·exact a
 rw[Z0y a]at h
 exact absurd rfl h
theorem Q3g{T:List Token}{i:Int}{s:Str}(h:isT (tp T i) s=true)(a:0<=i):i<T.length:=by
 rw[isT,G0k,G0s]at h
 exact J3y (by rw[h.1];decide) a
theorem J3h:∀ (k m f:Nat) (i:Int),0<=i->(T.length:Int)<=i+k->k<m->k<f->i<=4000000000000000000->T.length<=1000000->
 ∃j,(∀a,iter (Q4j S T a) m i=some j)/\(∀a x y,iter (Z1w S T a x y) f i=some j)/\i<=j/\(j<=i\/j<=T.length)/\(tp T j).kind_≠3
 | k,0,_,i,_,_,h,_,_,_=>absurd h (G1t _)
 | k,_,0,i,_,_,_,h,_,_=>absurd h (G1t _)
 | k,m+1,f+1,i,d,p,q,s,hb,hT=>by
   by_cases hk:(tp T i).kind_=3
   ·have u:=J3y (by rw[hk];decide) d
    cases k with
    | zero=>omega
    | succ k=>
      obtain⟨j,g,l,z,A,o⟩:=J3h k m f (i+1) (by omega) (by omega) (by omega) (by omega) (by omega) hT
      refine⟨j,λa=>?_,λa x y=>?_,by omega,by omega,o⟩
      ·show Q4j S T a (iter (Q4j S T a) m) i=_
       rw[Q4j,Q1t d (by omega),G0a,hk,G0e rfl,Q0b,wr1 d (by omega)]
       exact g a
      show Z1w S T a x y (iter (Z1w S T a x y) f) i=_
      obtain⟨t,e,g1,-⟩:=Q2l (S:=S) (T:=T) (D:=a) x y d
      rw[Z1w,e,G0a,g1,hk,G0e rfl,Q0b,wr1 d (by omega)]
      exact l a x y
   refine⟨i,λa=>?_,λa x y=>?_,by omega,by omega,hk⟩
   ·show Q4j S T a (iter (Q4j S T a) m) i=_
    rw[Q4j,Q1t d (by omega),G0a,G0d hk,Q0a]
   show Z1w S T a x y (iter (Z1w S T a x y) f) i=_
   obtain⟨t,e,g1,-⟩:=Q2l (S:=S) (T:=T) (D:=a) x y d
   rw[Z1w,e,G0a,g1,G0d hk,Q0a]
theorem Q7a(d:OkT T)(e:0<=i)(hb:i<=4000000000000000000):
 ∃j,(∀a,F168 S T a i=some j)/\(∀a x y,F97 S T a i x y=some j)/\i<=j/\(j<=i\/j<=T.length)/\(tp T j).kind_≠3:=by
 have:=d.len
 exact J3h T.length BIG BIG i e (by omega) (by unfold BIG;omega) (by unfold BIG;omega) hb d.len
def gapT(t:Token):Bool:=decide (t.kind_=3)||isT t [59]
theorem K3d{T:List Token}{i:Int}(h:gapT (tp T i)=true)(a:0<=i):i<T.length:=by
 rw[gapT,G2r,G0s]at h
 rcases h with h|h
 ·exact J3y (by rw[h];decide) a
 exact Q3g h a
theorem X3m:∀ (k m g:Nat) (i i0:Int),0<=i->(T.length:Int)<=i+k->k<m->k<g->i<=4000000000000000000->T.length<=1000000->
 ∃j,(∀a,iter (Z6x S T a i0) m i=some (decide (i0<j),j))/\(∀a x y,iter (Z7b S T a x y) g i=some j)/\i<=j/\(j<=i\/j<=T.length)/\gapT (tp T j)=false/\(gapT (tp T i)=true->i<j)/\(gapT (tp T i)=false->j=i)
 | k,0,_,i,_,_,_,h,_,_,_=>absurd h (G1t _)
 | k,_,0,i,_,_,_,_,h,_,_=>absurd h (G1t _)
 | k,m+1,g+1,i,i0,d,u,z,A,hb,hT=>by
   have l:∀a,Z6x S T a i0 (iter (Z6x S T a i0) m) i=(bif gapT (tp T i)then iter (Z6x S T a i0) m (i+1)else some (decide (i0<i),i)):=by
    intro a
    rw[Z6x,Q1t d (by omega),G0a,J1n _ d (by omega),G0a,wr1 d (by omega),gapT]
    cases decide ((tp T i).kind_=3)<;>cases isT (tp T i) [59]<;>rfl
   have o:∀a x y,Z7b S T a x y (iter (Z7b S T a x y) g) i=(bif gapT (tp T i)then iter (Z7b S T a x y) g (i+1)else some i):=by
    intro a x y
    obtain⟨t,e,g1,-⟩:=Q2l (S:=S) (T:=T) (D:=a) x y d
    rw[Z7b,e,G0a,Q1m _ _ _ d,G0a,wr1 d (by omega),g1,gapT]
    cases decide ((tp T i).kind_=3)<;>cases isT (tp T i) [59]<;>rfl
   cases f:gapT (tp T i)with
   | true=>
     have C:=K3d f d
     cases k with
     | zero=>omega
     | succ k=>
       obtain⟨j,p,q,E,F,s,H,I⟩:=X3m k m g (i+1) i0 (by omega) (by omega) (by omega) (by omega) (by omega) hT
       refine⟨j,λa=>?_,λa x y=>?_,by omega,by omega,s,λ_=>by omega,λh=>by cases h⟩
       ·refine(l a).trans ?_
        rw[f,Q0b]
        exact p a
       refine(o a x y).trans ?_
       rw[f,Q0b]
       exact q a x y
   | false=>
     refine⟨i,λa=>?_,λa x y=>?_,by omega,by omega,f,λh=>by(first|cases h|(rw[f]at h;cases h)),λ_=>rfl⟩
     ·refine(l a).trans ?_
      rw[f,Q0a]
     refine(o a x y).trans ?_
     rw[f,Q0a]
theorem Q8o(d:OkT T)(k:0<=i)(hb:i<=4000000000000000000):
 ∃j,(∀a,F80 S T a i=some (gapT (tp T i),j))/\(∀a x y,F55 S T a i x y=some j)/\i<=j/\(j<=i\/j<=T.length)/\gapT (tp T j)=false/\(gapT (tp T i)=true->i<j)/\(gapT (tp T i)=false->j=i):=by
 have:=d.len
 obtain⟨j,l,m,o,p,q,e,f⟩:=X3m (S:=S) T.length BIG BIG i i k (by omega) (by unfold BIG;omega) (by unfold BIG;omega) hb d.len
 refine⟨j,λa=>?_,m,o,p,q,e,f⟩
 rw[F80,l a]
 cases g:gapT (tp T i)with
 | true=>rw[G0e (e g)]
 | false=>rw[f g,G0d (by omega)]
end
end Go.Abs.U48
namespace Go.Abs.U48
open Go Go.Proofs
def Ag{α:Type}(P:α->Int->Prop)(N d b:Int)(p:Option (Int ⊕ (α×Int)))(r:Option (α×Int×Int×Int)):Prop:=
 (∃a j,p=some (.inr (a,j))/\r=some (a,j,0,0)/\P a j/\d<=j/\j<=N)\/(∃n a j,p=some (.inl n)/\r=some (a,j,47,n)/\0<=j/\j<=b)
def Bad{α:Type}(b n:Int)(r:Option (α×Int×Int×Int)):Prop:=∃a j,r=some (a,j,47,n)/\0<=j/\j<=b
section
variable {α β:Type}{P:α->Int->Prop}{P':β->Int->Prop}{N i i' b b':Int}
theorem Ag.bind{p:Option (Int ⊕ (α×Int))}{r:Option (α×Int×Int×Int)}{f:α×Int->Option (Int ⊕ (β×Int))}{g:α×Int×Int×Int->Option (β×Int×Int×Int)}(h:Ag P N i b p r)
 (hs:∀a j,P a j->i<=j->j<=N->Ag P' N i' b' (f (a,j)) (g (a,j,0,0))) (m:∀n a j,0<=j->j<=b->Bad b' n (g (a,j,47,n))):Ag P' N i' b' (Q0i p f) (r.bind g):=by
 rcases h with⟨a,j,d,e,o,k,l⟩|⟨n,a,j,d,e,k,l⟩
 ·have:=hs a j o k l
  rw[d,e]
  exact this
 obtain⟨q,j',s,t,u⟩:=m n a j k l
 rw[d,e]
 exact .inr ⟨n,q,j',rfl,s,t,u⟩
theorem Ag.ok{a:α}{j:Int}(d:P a j)(e:i<=j)(f:j<=N):Ag P N i b (some (.inr (a,j))) (some (a,j,0,0)):=.inl ⟨a,j,rfl,rfl,d,e,f⟩
theorem Ag.no{a:α}{j n:Int}(d:0<=j)(e:j<=b):Ag P N i b (some (.inl n)) (some (a,j,47,n)):=.inr ⟨n,a,j,rfl,rfl,d,e⟩
theorem Bad.mk{a:α}{j n:Int}(d:0<=j)(e:j<=b):Bad b n (some (a,j,47,n)):=⟨a,j,rfl,d,e⟩
theorem Ag.bad{p:Option (Int ⊕ (α×Int))}{r:Option (α×Int×Int×Int)}{n:Int}(h:Bad b n r)(d:p=some (.inl n)):Ag P N i b p r:=by
 obtain⟨a,j,e,f,g⟩:=h
 exact .inr ⟨n,a,j,d,e,f,g⟩
theorem Ag.of_no{p:Option (Int ⊕ (α×Int))}{r:Option (α×Int×Int×Int)}{n:Int}(h:Ag P N i b p r)(e:p=some (.inl n)):Bad b n r:=by
 rcases h with⟨a,j,d,f,g,k⟩|⟨m,a,j,d,f,g,k⟩
 ·rw[e]at d
  cases d
 rw[e]at d
 cases d
 exact⟨a,j,f,g,k⟩
theorem Bad.bind{r:Option (α×Int×Int×Int)}{g:α×Int×Int×Int->Option (β×Int×Int×Int)}{n:Int}(h:Bad b n r)(d:∀a j,0<=j->j<=b->Bad b' n (g (a,j,47,n))):Bad b' n (r.bind g):=by
 obtain⟨a,j,e,f,k⟩:=h
 rw[e]
 exact d a j f k
end
abbrev PCm:=Bool->Str->List Token->List Str->Int->Option (Int ⊕ (Cmd×Int))
abbrev PWd:=Str->List Token->List Str->Int->Option (Int ⊕ (Word×Int))
abbrev RCm:=Str->List Token->List Str->Int->Int->Int->Option (Cmd×Int×Int×Int)
abbrev RWd:=Str->List Token->List Str->Int->Int->Int->Option (Word×Int×Int×Int)
def Kc(i:Int)(a:Cmd)(j:Int):Prop:=a.kind_≠14/\(nC a:Int)+4<=8 * (j-i)
def Kw(i:Int)(a:Word)(j:Int):Prop:=(nW a:Int)+5<=8 * (j-i)
def Kr(i:Int)(a:Redir)(j:Int):Prop:=(nR a:Int)+5<=8 * (j-i)
theorem Z2j:∀ (l:List Word) (a:Word),nWs (l++[a])=nWs l+nW a
 | [],a=>by simp only[G1y,nWs];omega
 | x::l,a=>by simp only[G3a,nWs,Z2j l a];omega
theorem Q8h:∀ (l:List Cmd) (a:Cmd),nCs (l++[a])=nCs l+nC a
 | [],a=>by simp only[G1y,nCs];omega
 | x::l,a=>by simp only[G3a,nCs,Q8h l a];omega
theorem J4r:∀ (l:List Redir) (a:Redir),nRs (l++[a])=nRs l+nR a
 | [],a=>by simp only[G1y,nRs];omega
 | x::l,a=>by simp only[G3a,nRs,J4r l a];omega
structure HC(S:Str)(T:List Token)(D:List Str)(b ic:Int)(wc:PCm)(vc:RCm):Prop where
 ag:∀ (c:Bool) (i:Int),ic<=i->i<=T.length->Ag (Kc i) T.length (i+1) b (wc c S T D i) (vc S T D i 0 0)
 no:∀ (c:Bool) (i:Int),ic<=i->i<=T.length->bC (tp T i)=false->wc c S T D i=some (.inl (atf S T i))
 on:∀ (j n:Int),0<=j->∃a,vc S T D j 47 n=some (a,j,47,n)
structure HW(S:Str)(T:List Token)(D:List Str)(b iw:Int)(ww:PWd)(vw:RWd):Prop where
 ag:∀ (i:Int),iw<=i->i<=T.length->Ag (Kw i) T.length (i+1) b (ww S T D i) (vw S T D i 0 0)
 no:∀ (i:Int),iw<=i->i<=T.length->bW (tp T i)=false->ww S T D i=some (.inl (atf S T i))
 on:∀ (j n:Int),0<=j->j<=2900000000000000000->∃a j',vw S T D j 47 n=some (a,j',47,n)/\j<=j'/\j'<=j+3
section
variable {S:Str}{T:List Token}{D:List Str}{b ic iw:Int}{wc:PCm}{vc:RCm}{ww:PWd}{vw:RWd}
theorem e00:decide ((0:Int)=0)=true:=rfl
theorem e47:decide ((47:Int)=0)=false:=rfl
theorem Q7v(s:Str){i:Int}(a:0<=i)(h:i<=4611686018427387904):F132 s S T D i=some (isT (tp T i) s,bif isT (tp T i) s then i+1 else i):=by
 rw[F132,J1n _ a h,G0a,wr1 a h]
theorem J2q(g:OkT T)(h:HC S T D b ic wc vc)(s:0<=ic)(hb:(T.length:Int)<=b)(c:Bool)(r:Cmd)(i0:Int):
 ∀ (k m d:Nat) (j:Int) (l:List Cmd),ic<=j->i0<j->j<=T.length->(T.length:Int)<=j+k->k<m->k+1<d->2<=l.length->(l.length:Int)<=j->l.head?=some r->(nCs l:Int)+8<=8 * (j-i0)->
 Ag (Kc i0) T.length (i0+1) b (iter (Z0u S T D wc c) m (j,l)) (iter (Q6y S T D vc r) d (j,0,0,l))
 | k,0,_,_,_,_,_,_,_,o,_,_,_,_,_=>absurd o (G1t _)
 | k,_,0,_,_,_,_,_,_,_,o,_,_,_,_=>absurd o (G1t _)
 | k,m+1,d+1,j,l,C,E,t,F,H,I,J,K,e,L=>by
   have hT:=g.len
   have u:¬ ((l.length:Int)=1):=by omega
   have f:0<=j:=by omega
   show Ag _ _ _ _ (Z0u S T D wc c (iter (Z0u S T D wc c) m) (j,l)) (Q6y S T D vc r (iter (Q6y S T D vc r) d) (j,0,0,l))
   rw[Z0u,Q6y]
   dsimp only
   rw[Q7v _ f (by omega),G0a,e00,Q0b,Q1m _ _ _ f,G0a]
   dsimp only
   cases hs:isT (tp T j) [124]with
   | false=>
     simp only[Q0a]
     rw[G0d u,Q0a,Q0a]
     cases l with
     | nil=>cases e
     | cons x l=>
       simp only[List.head?_cons,G0b]at e
       subst e
       exact Ag.ok ⟨show(3:Int)≠14 by decide,by rw[Q3r];simp only[nWs,nRs];omega⟩ (by omega) t
   | true=>
     simp only[Q0b]
     have M:=Q3g hs f
     obtain⟨j',y,z,O,Q,U⟩:=Q7a (S:=S) g (i:=j+1) (by omega) (by omega)
     rw[y,G0a,wr1 f (by omega),z,G0a]
     cases k with
     | zero=>omega
     | succ k=>
       refine(Ag.bind (b':=b) (h.ag c j' (by omega) (by omega)) (i':=i0+1) (λa p A g1 q=>?_) (λn a p g1 q=>?_))
       ·dsimp only
        rw[Q0n (by simp only[G0h,G0j];omega),G0a]
        rw[G0a]
        have V:=A.2
        refine(J2q g h s hb c r i0 k m d p (l++[a]) (by omega) (by omega) q (by omega) (by omega) (by omega) (by simp;omega) (by simp;omega) ?_ (by rw[Q8h];omega))
        cases l with
        | nil=>cases e
        | cons x l=>exact e
       dsimp only
       rw[Q0n (by simp only[G0h,G0j];omega),G0a]
       cases d with
       | zero=>omega
       | succ d=>
         show Bad _ _ (Q6y S T D vc r (iter (Q6y S T D vc r) d) (p,47,n,l++[a]))
         rw[Q6y]
         dsimp only
         rw[e47,Q0a]
         cases decide (((l++[a]).length:Int)=1)<;>exact Bad.mk g1 q
theorem X2c(e:OkT T)(h:HC S T D b ic wc vc)(k:0<=ic)(hb:(T.length:Int)<=b)(c:Bool){i:Int}(l:ic<=i)(m:i<=T.length):
 Ag (Kc i) T.length (i+1) b (F167 wc c S T D i) (F96 vc S T D i 0 0):=by
 have hT:=e.len
 rw[F167,F96]
 refine Ag.bind (h.ag c i l m) (λa j g g1 d=>?_) (λn a j g1 d=>?_)
 ·dsimp only
  rw[Q7v _ (by omega) (by omega),G0a,e00,Q0b,Q1m _ _ _ (by omega),G0a]
  dsimp only
  cases hs:isT (tp T j) [124]with
  | false=>exact Ag.ok g g1 d
  | true=>
    simp only[Q0b]
    have s:=Q3g hs (by omega)
    obtain⟨j',o,p,t,u,x⟩:=Q7a (S:=S) e (i:=j+1) (by omega) (by omega)
    rw[o,G0a,wr1 (by omega) (by omega),p,G0a]
    refine(Ag.bind (b':=b) (h.ag c j' (by omega) (by omega)) (i':=i+1) (λa2 f q g1 d=>?_) (λn a2 f g1 d=>?_))
    ·dsimp only
     rw[Q0n (by simp only[G0h,G0j];omega),G0a,G0a]
     exact J2q e h k hb c a i T.length BIG BIG f [a,a2] (by omega) (by omega) d (by omega) (by unfold BIG;omega) (by unfold BIG;omega) (by simp) (by simp only[G0h,G0j];omega) rfl (by have:=g.2;have:=q.2;simp only[nCs];omega)
    dsimp only
    rw[Q0n (by simp only[G0h,G0j];omega),G0a]
    show Bad _ _ (Q6y S T D vc a (iter (Q6y S T D vc a) 1180591620717411303423) (f,47,n,[a]++[a2]))
    rw[Q6y]
    dsimp only
    rw[e47,Q0a]
    exact Bad.mk g1 d
 dsimp only
 rw[e47,Q0a]
 exact Bad.mk g1 d
end
end Go.Abs.U48
namespace Go.Abs.U48
open Go Go.Proofs
section
variable {S:Str}{T:List Token}{D:List Str}{b ic iw:Int}{wc:PCm}{vc:RCm}{ww:PWd}{vw:RWd}
theorem Z5y{t:Token}{s a:Str}(h:isT t s=true)(d:decide (s=a)=false):isT t a=false:=by
 rw[isT,G0k,G0s,G0s]at h
 rw[isT,h.2,d,G2d]
theorem K0x(vc:RCm)(r:Cmd)(m:Nat)(f:0<m)(j n:Int)(k:Int)(nm:Str)(a:List Word)(rs:List Redir)(ks:List Cmd)(d:0<=j)(e:j<=b):
 Bad b n (iter (Q7y S T D vc r) m (j,47,n,k,nm,a,rs,ks)):=by
 cases m with
 | zero=>omega
 | succ m=>
   show Bad _ _ (Q7y S T D vc r (iter (Q7y S T D vc r) m) (j,47,n,k,nm,a,rs,ks))
   rw[Q7y]
   dsimp only
   rw[e47,Q0a]
   exact Bad.mk d e
theorem Z8p(o:OkT T)(h:HC S T D b ic wc vc)(u:0<=ic)(hb:(T.length:Int)<=b)(c:Bool)(r:Cmd)(i0:Int):
 ∀ (k m f:Nat) (j:Int) (e:Int) (nm:Str) (d:List Word) (rs:List Redir) (ks:List Cmd),ic<=j->i0<j->j<=T.length->(T.length:Int)<=j+k->k<m->k+1<f->e≠14->(nWs d:Int)+nCs ks+nRs rs+5<=8 * (j-i0)->
 Ag (Kc i0) T.length (i0+1) b (iter (Q9a S T D wc c r) m (j,e,nm,d,rs,ks)) (iter (Q7y S T D vc r) f (j,0,0,e,nm,d,rs,ks))
 | k,0,_,_,_,_,_,_,_,_,_,_,_,q,_,_,_=>absurd q (G1t _)
 | k,_,0,_,_,_,_,_,_,_,_,_,_,_,q,_,_=>absurd q (G1t _)
 | k,m+1,f+1,j,e,nm,d,rs,ks,H,I,y,J,K,L,hk,M=>by
   have hT:=o.len
   have g:0<=j:=by omega
   have x:∀ (l:Int),l≠14->j<T.length->Ag (Kc i0) T.length (i0+1) b (Z3c S T D wc c (iter (Q9a S T D wc c r) m) e r nm d rs ks (l,j+1)) (Z7a S T D j 0 0 vc (iter (Q7y S T D vc r) f) e r nm d rs ks l):=by
    intro l z p
    obtain⟨j',A,C,O,Q,U⟩:=Q7a (S:=S) o (i:=j+1) (by omega) (by omega)
    rw[Z3c,Z7a]
    dsimp only
    rw[A,G0a,wr1 (by omega) (by omega),C,G0a]
    refine Ag.bind (X2c o h u hb c (i:=j') (by omega) (by omega)) (λa s E g1 t=>?_) (λn a s g1 t=>?_)
    ·dsimp only
     cases k with
     | zero=>omega
     | succ k=>exact Z8p o h u hb c r i0 k m f s l _ _ _ _ (by omega) (by omega) t (by omega) (by omega) (by omega) z (by have:=E.2;simp only[nCs,Q3r (Cmd.mk _ _ _ _ _ _),nWs,nRs];omega)
    dsimp only
    exact K0x vc r f (by omega) s n l _ _ _ _ g1 t
   show Ag _ _ _ _ (Q9a S T D wc c r (iter (Q9a S T D wc c r) m) (j,e,nm,d,rs,ks)) (Q7y S T D vc r (iter (Q7y S T D vc r) f) (j,0,0,e,nm,d,rs,ks))
   rw[Q9a,Q7y]
   dsimp only
   rw[Q7v _ g (by omega),G0a,e00,Q0b,Q1m _ _ _ g,G0a,Q1m _ _ _ g,G0a,G0a]
   dsimp only
   cases hs:isT (tp T j) [38,38]with
   | true=>
     have p:=Q3g hs g
     simp only[Q0b]
     rw[Z5y hs (by decide)]
     exact x 5 (by decide) p
   | false=>
     simp only[Q0a]
     rw[Q7v _ g (by omega),G0a]
     dsimp only
     cases F:isT (tp T j) [124,124]with
     | false=>exact Ag.ok (j:=j) (show Kc i0 (Cmd.mk e r.at_ nm d rs ks) j from ⟨hk,by rw[Q3r];show((1+nWs d+nCs ks+nRs rs:Nat):Int)+4<=_;omega⟩) (by omega) y
     | true=>
       have p:=Q3g F g
       have:=x 6 (by decide) p
       rw[Z7a]at this
       exact this
theorem X8e(d:OkT T)(h:HC S T D b ic wc vc)(f:0<=ic)(hb:(T.length:Int)<=b)(c:Bool){i:Int}(k:ic<=i)(l:i<=T.length):
 Ag (Kc i) T.length (i+1) b (F131 wc c S T D i) (F57 vc S T D i 0 0):=by
 have hT:=d.len
 rw[F131,F57]
 refine Ag.bind (X2c d h f hb c k l) (λa j g g1 e=>?_) (λn a j g1 e=>?_)
 ·dsimp only
  exact Z8p d h f hb c a i T.length BIG BIG j _ _ _ _ _ (by omega) (by omega) e (by omega) (by unfold BIG;omega) (by unfold BIG;omega) g.1 (by have:=g.2;rw[Q3r]at this;omega)
 dsimp only
 exact K0x vc a BIG (by unfold BIG;omega) j n _ _ _ _ _ g1 e
theorem Z7j(vw:RWd)(m:Nat)(a:0<m)(j n:Int)(l:List Word):iter (Q6l S T D vw) m (j,47,n,l)=some ([],j,47,n):=by
 cases m with
 | zero=>omega
 | succ m=>
   show Q6l S T D vw (iter (Q6l S T D vw) m) (j,47,n,l)=_
   rw[Q6l]
   dsimp only
   rw[e47,Q0a]
def Wds(S:Str)(T:List Token)(i b:Int)(p:Option (Int ⊕ (List Word×Int)))(r:Option (List Word×Int×Int×Int)):Prop:=
 (∃n,p=some (.inl n)/\Bad b n r)\/∃l j,p=some (.inr (l,j))/\i<=j/\j<=T.length/\((tp T j).kind_≠3/\(nWs l:Int)<=8 * (j-i))/\
   ((isT (tp T j) [41]=true/\r=some (l,j+1,0,0))\/(isT (tp T j) [41]=false/\Bad b (atf S T j) r))
theorem X4m{t:Token}(h:isT t [41]=true):bW t=false:=by
 rw[bW,Z5y h (by decide),Z5y h (by decide),Z5y h (by decide),Z5y h (by decide)]
 rw[isT,G0k,G0s]at h
 rw[h.1]
 rfl
theorem Z8a(o:OkT T)(h:HW S T D b iw ww vw)(u:0<=iw)(hb:(T.length:Int)<=b)(i0:Int):
 ∀ (k m d:Nat) (j:Int) (l:List Word),iw<=j->i0<=j->j<=T.length->(T.length:Int)<=j+k->k<m->k+1<d->(l.length:Int)<=j->(nWs l:Int)<=8 * (j-i0)->
 Wds S T i0 b (iter (Q3n S T D ww) m (j,l)) (iter (Q6l S T D vw) d (j,0,0,l))
 | k,0,_,_,_,_,_,_,_,p,_,_,_=>absurd p (G1t _)
 | k,_,0,_,_,_,_,_,_,_,p,_,_=>absurd p (G1t _)
 | k,m+1,d+1,j,l,C,E,F,H,I,J,K,L=>by
   have hT:=o.len
   have M:0<=j:=by omega
   obtain⟨j',x,y,O,Q,z⟩:=Q7a (S:=S) o (i:=j) (by omega) (by omega)
   show Wds _ _ _ _ (Q3n S T D ww (iter (Q3n S T D ww) m) (j,l)) (Q6l S T D vw (iter (Q6l S T D vw) d) (j,0,0,l))
   rw[Q3n,Q6l]
   dsimp only
   rw[x,G0a,Q1t (by omega) (by omega),G0a,Q5n,G0a,e00,Q0b,y,G0a,Q1m _ _ _ (by omega),G0a]
   cases q:bW (tp T j')with
   | false=>
     simp only[G0q,Q0b]
     refine .inr ⟨l,j',rfl,by omega,by omega,⟨z,by omega⟩,?_⟩
     cases f:isT (tp T j') [41]with
     | true=>
       refine .inl ⟨rfl,?_⟩
       rw[Q0b,wr1 (by omega) (by omega)]
     | false=>
       refine .inr ⟨rfl,?_⟩
       rw[Q0a]
       refine Bad.bind ((h.ag j' (by omega) (by omega)).of_no (h.no j' (by omega) (by omega) q)) (λa g g1 e=>?_)
       dsimp only
       rw[Q0n (by simp only[G0h,G0j];omega),G0a]
       rw[Z7j vw d (by omega)]
       exact Bad.mk g1 e
   | true=>
     have f:isT (tp T j') [41]=false:=by
      cases f:isT (tp T j') [41]with
      | false=>rfl
      | true=>rw[X4m f]at q;cases q
     rw[f]
     simp only[G0u,Q0a]
     rcases h.ag j' (by omega) (by omega)with⟨a,g,s,t,A,g1,e⟩|⟨n,a,g,s,t,g1,e⟩
     ·rw[s,t]
      show Wds _ _ _ _ ((appO 88 l [a]).bind _) ((appO 88 l [a]).bind _)
      rw[Q0n (by simp only[G0h,G0j];omega),G0a,G0a]
      cases k with
      | zero=>omega
      | succ k=>exact Z8a o h u hb i0 k m d g (l++[a]) (by omega) (by omega) e (by omega) (by omega) (by omega) (by simp;omega) (by have:(nW a:Int)+5<=8 * (g-j'):=A;rw[Z2j];omega)
     rw[s,t]
     refine .inl ⟨n,rfl,?_⟩
     rw[G0a]
     dsimp only
     rw[Q0n (by simp only[G0h,G0j];omega),G0a]
     rw[Z7j vw d (by omega)]
     exact Bad.mk g1 e
theorem Z9r(a:OkT T)(h:HW S T D b iw ww vw)(d:0<=iw)(hb:(T.length:Int)<=b){i:Int}(e:iw<=i)(f:i<=T.length):
 Wds S T i b (F257 ww S T D i) (F205 vw S T D i 0 0):=by
 rw[F257,F205]
 exact Z8a a h d hb i T.length BIG BIG i [] e (G5e _) f (by omega) (by have:=a.len;unfold BIG;omega) (by have:=a.len;unfold BIG;omega) (by simp;omega) (by simp only[nWs];omega)
end
end Go.Abs.U48
namespace Go.Abs.U48
open Go Go.Proofs
abbrev Q9p:Str:=[99,97,115,101]
def stpT(e:Str)(T:List Token)(i:Int):Bool:=bif decide (e=[])then decide ((T.length:Int)<=i)else bif decide (e=Q9p)then csT T i||isT (tp T i) [125]else isT (tp T i) e
theorem V6g{t:Token}{s:Str}(h:isT t s=true)(hs:(decide (s=[36])||decide (s=[36,35])||decide (s=[40])||decide (s=[96])||decide (s=[33])||decide (s=[64])||decide (s=[123])||decide (c0 s=60)||decide (c0 s=62))=false):bC t=false:=by
 rw[isT,G0k,G0s,G0s]at h
 simp only[G1x]at hs
 obtain⟨⟨⟨⟨⟨⟨⟨⟨a,d⟩,e⟩,f⟩,g⟩,k⟩,l⟩,m⟩,o⟩:=hs
 have k1:decide (t.kind_=1)=false:=G0d (by rw[h.1];decide)
 have p:decide (t.kind_=4)=false:=G0d (by rw[h.1];decide)
 simp only[bC,bW,bR,isT,h.2,k1,p,a,d,e,f,g,k,l,m,o,G2d,G2n]
theorem Z8j{t:Token}{s:Str}(h:keyT t s=true):t.kind_=1:=by
 rw[keyT,G0k,G0k,G0s]at h
 exact h.1.1
theorem Y0h{t:Token}{s:Str}(h:t.kind_≠2):isT t s=false:=by
 rw[isT,G0d h,G1o]
def Ends(c:Bool)(e:Str):Prop:=(c=true/\e=Q9p)\/(c=false/\(e=[]\/e=[125]\/e=[41]))
section
variable {S:Str}{T:List Token}{D:List Str}{b ic iw:Int}{wc:PCm}{vc:RCm}{ww:PWd}{vw:RWd}
theorem Z9a(e:Str)(x y:Int)(d:OkT T){i:Int}(a:0<=i)(h:i<=4611686018427387904):F56 e S T D i x y=some (stpT e T i):=by
 rw[F56,stpT]
 cases decide (e=[])with
 | true=>rfl
 | false=>
   simp only[Q0a]
   rw[V8f _ _ d a h,G0a,Q1m _ _ _ a,G0a,Q1m _ _ _ a,G0a]
   show(bif decide (e=Q9p)then _ else _)=some (bif decide (e=Q9p)then _ else _)
   cases decide (e=Q9p)with
   | false=>rfl
   | true=>cases csT T i<;>rfl
theorem Z6n(c:Bool)(a:OkT T){i:Int}(d:0<=i)(h:i<=4611686018427387904):F81 c S T D i=some (!(c&&csT T i)&&bC (tp T i)):=by
 cases c with
 | false=>rw[K4u a d h];rfl
 | true=>rw[Y6u a d h];rfl
theorem J5l{c:Bool}{e:Str}(d:Ends c e){i:Int}(g:0<=i)(h:(!(c&&csT T i)&&bC (tp T i))=true):stpT e T i=false:=by
 rw[G0k,G4q]at h
 have hk:∀s:Str,(decide (s=[36])||decide (s=[36,35])||decide (s=[40])||decide (s=[96])||decide (s=[33])||decide (s=[64])||decide (s=[123])||decide (c0 s=60)||decide (c0 s=62))=false->isT (tp T i) s=false:=by
  intro s hs
  cases f:isT (tp T i) s with
  | false=>rfl
  | true=>rw[V6g f hs]at h;cases h.2
 rcases d with⟨rfl,rfl⟩|⟨rfl,rfl|rfl|rfl⟩
 ·rw[stpT]
  simp only[G1i]at h
  rw[h.1,hk [125] (by decide)]
  rfl
 ·have k:i<T.length:=by
   rcases G6e i T.length with a|a
   ·exact a
   rw[Z0y a]at h
   exact absurd h.2 (by decide)
  rw[stpT]
  show decide ((T.length:Int)<=i)=false
  exact G0d (by omega)
 ·exact hk [125] (by decide)
 exact hk [41] (by decide)
theorem Z9e(e:Str)(vc:RCm)(m:Nat)(a:0<m)(j n:Int)(l:List Cmd):iter (Q2g S T D e vc) m (j,47,n,l)=some ([],j,47,n):=by
 cases m with
 | zero=>omega
 | succ m=>
   show Q2g S T D e vc (iter (Q2g S T D e vc) m) (j,47,n,l)=_
   rw[Q2g]
   dsimp only
   rw[e47,Q0a]
def Lst(S:Str)(T:List Token)(c:Bool)(e:Str)(i b:Int)(p:Option (Int ⊕ (List Cmd×Int)))(r:Option (List Cmd×Int×Int×Int)):Prop:=
 (∃n,p=some (.inl n)/\Bad b n r)\/∃l j,p=some (.inr (l,j))/\i<=j/\j<=T.length/\(nCs l:Int)<=8 * (j-i)/\(c=true->keyT (tp T j) Q9p=true->csT T j=true)/\
   ((stpT e T j=true/\r=some (l,j,0,0))\/(stpT e T j=false/\Bad b (atf S T j) r))
theorem J7e(o:OkT T)(e:Str)(vc:RCm)(m:Nat)(f:0<m)(l:List Cmd)(z:l.length<=2000000)(a:Cmd)(j n:Int)(d:0<=j)(A:j<=b)(C:b<=4000000000000000000):
 Bad (b+1) n ((F58 [38] S T D j 47 n).bind λp=>
  (bif p then
    (appO 104 l [Cmd.mk 14 a.at_ [] [] [] [a]]).bind λs=>
    iter (Q2g S T D e vc) m (IntKind.wrap .i64 (j+1),47,n,s)
  else
   (appO 104 l [a]).bind λg=>
   (F56 e S T D j 47 n).bind λu=>
   (bif decide (e=[99,97,115,101])then
     (F58 [125] S T D j 47 n).bind λx=>
     Z0d S T D j 47 n (iter (Q2g S T D e vc) m) g x
   else
    Z0d S T D j 47 n (iter (Q2g S T D e vc) m) g u))):=by
 rw[Q1m _ _ _ d,G0a]
 cases isT (tp T j) [38]with
 | true=>
   rw[Q0b,Q0n (by simp only[G0h,G0j];omega),G0a,Z9e e vc m f,wr1 d (by omega)]
   exact Bad.mk (by omega) (by omega)
 | false=>
   rw[Q0a,Q0n (by simp only[G0h,G0j];omega),G0a,Z9a _ _ _ o d (by omega),G0a,Q1m _ _ _ d,G0a]
   have k:∀q:Bool,Z0d S T D j 47 n (iter (Q2g S T D e vc) m) (l++[a]) q=some ([],j,47,n):=by
    intro q
    obtain⟨t,y,-⟩:=Q2l (S:=S) (T:=T) (D:=D) 47 n d
    rw[Z0d,y,G0a,Q1m _ _ _ d,G0a,J8a,G0a]
    dsimp only
    rw[Z9e e vc m f]
    cases !decide (t.kind_=3)<;>cases(!isT (tp T j) [59]&&!q)<;>rfl
   rw[k,k]
   cases decide (e=[99,97,115,101])<;>exact Bad.mk d (by omega)
theorem Z5v(o:OkT T)(h:HC S T D b ic wc vc)(H:0<=ic)(hb:(T.length:Int)<=b)(A:b<=4000000000000000000){c:Bool}{e:Str}(p:Ends c e)(i0:Int):
 ∀ (k m g:Nat) (x j:Int) (l:List Cmd),ic<=x->x<=j->i0<=x->j<=T.length->(∀D' y z,F55 S T D' x y z=some j)->gapT (tp T j)=false->(T.length:Int)<=j+k->k<m->k+1<g->(l.length:Int)<=j->(nCs l:Int)<=8 * (x-i0)->
 Lst S T c e i0 (b+1) (iter (Z9b c S T D wc) m (j,l)) (iter (Q2g S T D e vc) g (x,0,0,l))
 | k,0,_,_,_,_,_,_,_,_,_,_,_,I,_,_,_=>absurd I (G1t _)
 | k,_,0,_,_,_,_,_,_,_,_,_,_,_,I,_,_=>absurd I (G1t _)
 | k,m+1,g+1,x,j,l,h1,av,hi,J,hx,hg,h3,h4,h5,aB,hN=>by
   have hT:=o.len
   have K:0<=j:=by omega
   show Lst _ _ _ _ _ _ (Z9b c S T D wc (iter (Z9b c S T D wc) m) (j,l)) (Q2g S T D e vc (iter (Q2g S T D e vc) g) (x,0,0,l))
   rw[Z9b,Q2g]
   dsimp only
   rw[Z6n c o K (by omega),G0a,e00,Q0b,hx,G0a,Z9a e _ _ o K (by omega),G0a]
   have C:=X8e o h H hb c (i:=j) (by omega) J
   cases s:(!(c&&csT T j)&&bC (tp T j))with
   | false=>
     rw[Q0a]
     refine .inr ⟨l,j,rfl,by omega,J,by omega,λaD hk=>?_,?_⟩
     ·cases E:csT T j with
      | true=>rfl
      | false=>
        rw[E,G2d,G0q,G1i,bC,bW,Z8j hk]at s
        cases s
     cases hs:stpT e T j with
     | true=>exact .inl ⟨rfl,by rw[Q0b]⟩
     | false=>
       refine .inr ⟨rfl,?_⟩
       rw[Q0a]
       have L:bC (tp T j)=false:=by
        cases L:bC (tp T j)with
        | false=>rfl
        | true=>
          rw[L,G2x,Bool.not_eq_false',G0k]at s
          rcases p with⟨rfl,rfl⟩|⟨rfl,-⟩
          ·rw[stpT,s.2]at hs
           cases hs
          cases s.1
       have af:F131 wc c S T D j=some (.inl (atf S T j)):=by
        rw[F131,F167,h.no c j (by omega) J L]
        rfl
       refine Bad.bind (C.of_no af) (λa d g1 u=>?_)
       dsimp only
       exact J7e o e vc g (by omega) l (by omega) a d _ g1 u A
   | true=>
     rw[Q0b,J5l p K s,Q0a]
     rcases C with⟨a,f,M,O,⟨ag,aE⟩,g1,u⟩|⟨n,a,f,M,O,g1,u⟩
     ·rw[F82,M,O]
      show Lst _ _ _ _ _ _ (Q0i ((F132 [38] S T D f).bind _) _) _
      rw[Q7v _ (by omega) (by omega),G0a,G0a]
      dsimp only
      rw[Q1m _ _ _ (by omega),G0a]
      cases k with
      | zero=>omega
      | succ k=>
      cases ah:isT (tp T f) [38]with
      | true=>
        have aF:=Q3g ah (by omega)
        simp only[Q0b]
        show Lst _ _ _ _ _ _ ((appO 104 l [Cmd.mk 14 a.at_ [] [] [] [a]]).bind _) _
        rw[Q0n (by simp only[G0h,G0j];omega),G0a,G0a]
        obtain⟨d,Q,F,U,q4,V,W,X⟩:=Q8o (S:=S) o (i:=f+1) (by omega) (by omega)
        rw[Q,G0a]
        dsimp only
        rw[G0e rfl,G5r,Q0b,wr1 (by omega) (by omega)]
        exact Z5v o h H hb A p i0 k m g (f+1) d _ (by omega) U (by omega) (by omega) F V (by omega) (by omega) (by omega) (by simp;omega) (by rw[Q8h,Q3r (Cmd.mk _ _ _ _ _ _)];simp only[nWs,nCs,nRs];omega)
      | false=>
        simp only[Q0a]
        show Lst _ _ _ _ _ _ ((appO 104 l [a]).bind _) _
        rw[Q0n (by simp only[G0h,G0j];omega),G0a,G0a]
        obtain⟨d,Q,F,U,q4,V,W,X⟩:=Q8o (S:=S) o (i:=f) (by omega) (by omega)
        rw[Q,G0a]
        dsimp only
        rw[G0d (show ¬ a.kind_=14 from ag),G2n,Z9a e _ _ o (by omega) (by omega),G0a,Q1m _ _ _ (by omega),G0a]
        have Y:∀q:Bool,Z0d S T D f 0 0 (iter (Q2g S T D e vc) g) (l++[a]) q=(bif gapT (tp T f)||q then iter (Q2g S T D e vc) g (f,0,0,l++[a])else some ([],f,47,atf S T f)):=by
         intro q
         obtain⟨t,et,k1,-⟩:=Q2l (S:=S) (T:=T) (D:=D) 0 0 (show 0<=f by omega)
         rw[Z0d,et,G0a,Q1m _ _ _ (by omega),G0a,Z1y _ (by omega),G0a,k1,gapT]
         dsimp only
         rw[Z9e e vc g (by omega)]
         cases decide ((tp T f).kind_=3)<;>cases isT (tp T f) [59]<;>cases q<;>rfl
        rw[Y,Y]
        cases aa:gapT (tp T f)with
        | true=>
          rw[Q0b,G3d,Q0b,G3d,Q0b]
          have:=Z5v o h H hb A p i0 k m g f d (l++[a]) (by omega) U (by omega) (by omega) F V (by have:=W aa;omega) (by omega) (by omega) (by simp;omega) (by rw[Q8h];omega)
          cases decide (e=[99,97,115,101])<;>exact this
        | false=>
          have al:=X aa
          subst al
          rw[Q0a,G1p,G1p]
          have fin:∀q:Bool,(q=true->stpT e T d=true)->(q=false->stpT e T d=false)->(c=true->keyT (tp T d) Q9p=true->csT T d=true)->
           Lst S T c e i0 (b+1) (some (.inr (l++[a],d))) (bif q then iter (Q2g S T D e vc) g (d,0,0,l++[a])else some ([],d,47,atf S T d)):=by
           intro q ac am ao
           refine .inr ⟨_,d,rfl,by omega,u,by rw[Q8h];omega,ao,?_⟩
           cases q with
           | true=>
             refine .inl ⟨ac rfl,?_⟩
             rw[Q0b]
             cases g with
             | zero=>omega
             | succ g=>
               show Q2g S T D e vc (iter (Q2g S T D e vc) g) (d,0,0,l++[a])=_
               rw[Q2g]
               dsimp only
               rw[e00,Q0b,F,G0a,Z9a e _ _ o (by omega) (by omega),G0a,ac rfl,Q0b]
           | false=>
             refine .inr ⟨am rfl,?_⟩
             rw[Q0a]
             exact Bad.mk (by omega) (by omega)
          rcases p with⟨rfl,rfl⟩|⟨rfl,p⟩
          ·rw[Q0b,Q1t (by omega) (by omega),G0a,Z6w (o.tl _).1,G0a,Q4g (by kernel_rfl),G0e rfl,Q0b]
           cases hk:keyT (tp T d) Q9p with
           | true=>
             rw[Q0b,Q8x (by omega),Y0h (by rw[Z8j hk];decide),Q0a]
             exact .inl ⟨_,rfl,Bad.mk (by omega) (by omega)⟩
           | false=>
             rw[Q0a]
             have E:csT T d=false:=by rw[csT,show keyT (tp T d) [99,97,115,101]=false from hk];rfl
             refine fin _ (λhq=>?_) (λhq=>?_) (λ_ aq=>absurd (hk.symm.trans aq) (by decide))
             ·rw[stpT,E,hq]
              rfl
             rw[stpT,E,hq]
             rfl
          rw[Q0a]
          have ar:decide (e=[99,97,115,101])=false:=by rcases p with rfl|rfl|rfl<;>rfl
          rw[ar,Q0a]
          exact fin _ (λhq=>hq) (λhq=>hq) (λC=>by cases C)
     rw[F82,M,O]
     refine .inl ⟨n,rfl,?_⟩
     rw[G0a]
     dsimp only
     exact J7e o e vc g (by omega) l (by omega) a f _ g1 u A
theorem J4s(a:OkT T)(h:HC S T D b ic wc vc)(d:0<=ic)(hb:(T.length:Int)<=b)(f:b<=4000000000000000000){c:Bool}{e:Str}(g:Ends c e){i:Int}(k:ic<=i)(q:i<=T.length):
 Lst S T c e i (b+1) (F47 wc c S T D i) (F24 vc e S T D i 0 0):=by
 have hT:=a.len
 obtain⟨j,l,m,o,s,p,t,u⟩:=Q8o (S:=S) a (i:=i) (by omega) (by omega)
 rw[F47,F24,l,G0a]
 exact Z5v a h d hb f g i T.length BIG BIG i j [] k o (G5e _) (by omega) m p (by omega) (by unfold BIG;omega) (by unfold BIG;omega) (by simp;omega) (by simp only[nCs];omega)
end
end Go.Abs.U48
namespace Go.Abs.U48
open Go Go.Proofs
section
variable {S:Str}{T:List Token}{D:List Str}{b ic iw:Int}{wc:PCm}{vc:RCm}{ww:PWd}{vw:RWd}{i j n:Int}
theorem J6x(h:plT (tp T i)=true)(a:0<=i):i<T.length:=by
 rw[plT,G0k,G0s]at h
 exact J3y (by rw[h.1];decide) a
theorem J8d(e:OkT T)(d:0<=i)(h:i<=4000000000000000000)(a:(plT (tp T i)&&Q3q (tp T i).text_)=true):F256 S T D i=some (.inr ((tp T i).text_,i+1)):=by
 rw[G0k]at a
 rw[F256,Q1t d (by omega),G0a,Z7o,G0a,a.1,Q0g,J6a _ (by have:=(e.tl i).1;omega),G0a,a.2,wr1 d (by omega)]
 rfl
theorem J8e(e:OkT T)(a:0<=i)(h:i<=4000000000000000000)(d:(plT (tp T i)&&Q3q (tp T i).text_)=false):F256 S T D i=some (.inl (atf S T i)):=by
 rw[F256,Q1t a (by omega),G0a,Z7o,G0a]
 cases f:plT (tp T i)with
 | false=>
   rw[Q1s,G0a,Q8x a]
   rfl
 | true=>
   rw[f,G1i]at d
   rw[Q0g,J6a _ (by have:=(e.tl i).1;omega),G0a,d,Q8x a]
   rfl
theorem J5x(a:OkT T)(x y:Int)(d:0<=i)(h:i<=4000000000000000000):F173 S T D i x y=
 (bif plT (tp T i)&&Q3q (tp T i).text_ then some ((tp T i).text_,i+1,x,y)else(F60 S T D i x y).bind λ(f,g)=>some ((tp T i).text_,i+1,f,g)):=by
 obtain⟨t,e,k,l,m,-⟩:=Q2l (S:=S) (T:=T) (D:=D) x y d
 rw[F173,e,G0a,k,l,m,plT,wr1 d (by omega)]
 cases decide ((tp T i).kind_=1)with
 | false=>rfl
 | true=>
   rw[Q0g,Z3a _ (by have:=(a.tl i).2.1;omega),G0a]
   cases Q2u (tp T i).quoted_ with
   | true=>rfl
   | false=>
     simp only[G0u,G2n,G0q,Q0g]
     rw[X6e _ (by have:=(a.tl i).1;omega),G0a]
     cases Q3q (tp T i).text_<;>rfl
theorem J3s(a:OkT T)(d:0<=i)(h:i<=4000000000000000000)(e:(plT (tp T i)&&Q3q (tp T i).text_)=true):F173 S T D i 0 0=some ((tp T i).text_,i+1,0,0):=by
 rw[J5x a _ _ d h,e,Q0b]
theorem J8f(d:OkT T)(a:0<=i)(h:i<=4000000000000000000)(e:(plT (tp T i)&&Q3q (tp T i).text_)=false):F173 S T D i 0 0=some ((tp T i).text_,i+1,47,atf S T i):=by
 rw[J5x d _ _ a h,e,Q0a,Z1y _ a]
 rfl
theorem X6d(a:OkT T)(d:0<=i)(h:i<=4000000000000000000):F173 S T D i 47 n=some ((tp T i).text_,i+1,47,n):=by
 rw[J5x a _ _ d h,J8a]
 cases plT (tp T i)&&Q3q (tp T i).text_<;>rfl
theorem Q5h{s:Str}(a:0<=i)(h:i<=4000000000000000000)(hs:isT (tp T i) s=true):F255 s S T D i=some (.inr ((tp T i).at_,i+1)):=by
 rw[F255,Q1t a (by omega),G0a,Q7v _ a (by omega),hs]
 rfl
theorem Q7z{s:Str}(a:0<=i)(h:i<=4000000000000000000)(hs:isT (tp T i) s=false):F255 s S T D i=some (.inl (atf S T i)):=by
 rw[F255,Q1t a (by omega),G0a,Q7v _ a (by omega),hs,G0a]
 simp only[G0q,Q0b,Q0a]
 rw[Q8x a]
 rfl
theorem Z7l{s:Str}(a:0<=i)(h:i<=4000000000000000000)(hs:isT (tp T i) s=true):F174 s S T D i 0 0=some (i+1,0,0):=by
 rw[F174,Q1m _ _ _ a,G0a,hs,wr1 a (by omega)]
 rfl
theorem J3r{s:Str}(a:0<=i)(h:i<=4000000000000000000)(hs:isT (tp T i) s=false):F174 s S T D i 0 0=some (i+1,47,atf S T i):=by
 rw[F174,Q1m _ _ _ a,G0a,hs,wr1 a (by omega),Z1y _ a]
 rfl
theorem Z0t(s:Str)(a:0<=i)(h:i<=4000000000000000000):F174 s S T D i 47 n=some (i+1,47,n):=by
 rw[F174,Q1m _ _ _ a,G0a,wr1 a (by omega),J8a]
 cases isT (tp T i) s<;>rfl
def Bad7(b n:Int)(r:Option (Int×Int×Str×(List Cmd)×Int×Int×Int)):Prop:=∃k a nm l j,r=some (k,a,nm,l,j,47,n)/\0<=j/\j<=b
theorem X6b(vc:RCm)(s e:Str)(d:0<=i)(h:i<=3000000000000000000):∃a,F177 vc s e S T D i 47 n=some (12,a,[],[],i+2,47,n):=by
 obtain⟨t,f,-⟩:=Q2l (S:=S) (T:=T) (D:=D) 47 n d
 refine⟨t.at_,?_⟩
 rw[F177,f,G0a,Z0t _ d (by omega),G0a]
 dsimp only
 rw[F24,Z9e e vc BIG (by unfold BIG;omega),G0a]
 dsimp only
 rw[Z0t _ (by omega) (by omega),G0a]
 simp only[Int.add_assoc]
 rfl
theorem K0g(o:OkT T)(h:HC S T D b ic wc vc)(x:0<=ic)(hb:(T.length:Int)<=b)(U:b<=3000000000000000000){s e:Str}(p:e=[125]\/e=[41])(y:ic<=i+1)(f:0<=i)(V:i<=T.length):
 (isT (tp T i) s=false/\Bad7 (b+3) (atf S T i) (F177 vc s e S T D i 0 0)) \/
 (isT (tp T i) s=true/\∃n,F47 wc false S T D (i+1)=some (.inl n)/\Bad7 (b+3) n (F177 vc s e S T D i 0 0)) \/
 (isT (tp T i) s=true/\∃l j,F47 wc false S T D (i+1)=some (.inr (l,j))/\i+1<=j/\j<=T.length/\(nCs l:Int)<=8 * (j-(i+1))/\
   ((isT (tp T j) e=false/\Bad7 (b+3) (atf S T j) (F177 vc s e S T D i 0 0))\/(isT (tp T j) e=true/\j<T.length/\F177 vc s e S T D i 0 0=some (12,(tp T i).at_,[],l,j+1,0,0)))):=by
 have hT:=o.len
 have z:Ends false e:=.inr ⟨rfl,by rcases p with rfl|rfl<;>simp⟩
 have q:∀j,stpT e T j=isT (tp T j) e:=by
  intro j
  rcases p with rfl|rfl<;>rfl
 cases hs:isT (tp T i) s with
 | false=>
   refine .inl ⟨rfl,?_⟩
   obtain⟨t,A,-⟩:=Q2l (S:=S) (T:=T) (D:=D) 0 0 f
   rw[F177,A,G0a,J3r f (by omega) hs,G0a]
   dsimp only
   rw[F24,Z9e e vc BIG (by unfold BIG;omega),G0a]
   dsimp only
   rw[Z0t _ (by omega) (by omega),G0a]
   exact⟨_,_,_,_,_,rfl,by omega,by omega⟩
 | true=>
   have C:=Q3g hs f
   refine .inr ?_
   have E:=J4s o h x hb (by omega) z (i:=i+1) y (by omega)
   have u:F177 vc s e S T D i 0 0=(F24 vc e S T D (i+1) 0 0).bind λ(F,H,I,J)=>
    (F174 e S T D H I J).bind λ(K,L,M)=>some ((12:Int),(tp T i).at_,([]:Str),F,K,L,M):=by
    rw[F177,Z6z 0 0 f C,G0a,Z7l f (by omega) hs,G0a]
   have bad:∀n,Bad (b+1) n (F24 vc e S T D (i+1) 0 0)->Bad7 (b+3) n (F177 vc s e S T D i 0 0):=by
    intro n ⟨a,j,O,g1,k⟩
    rw[u,O,G0a]
    dsimp only
    rw[Z0t _ g1 (by omega),G0a]
    exact⟨_,_,_,_,_,rfl,by omega,by omega⟩
   rcases E with⟨n,g,Q⟩|⟨l,j,g,g1,k,g4,-,⟨d,m⟩|⟨d,m⟩⟩
   ·exact .inl ⟨rfl,n,g,bad n Q⟩
   ·refine .inr ⟨rfl,l,j,g,g1,k,g4,.inr ?_⟩
    rw[q]at d
    refine⟨d,Q3g d (by omega),?_⟩
    rw[u,m,G0a]
    dsimp only
    rw[Z7l (by omega) (by omega) d,G0a]
   rw[q]at d
   exact .inr ⟨rfl,l,j,g,g1,k,g4,.inl ⟨d,bad _ m⟩⟩
theorem Z6m(m:OkT T)(h:HC S T D b ic wc vc)(o:0<=ic)(hb:(T.length:Int)<=b)(p:b<=3000000000000000000)(q:ic<=i+1)(f:0<=i)(t:i<=T.length):
 (∃n,F253 wc S T D i=some (.inl n)/\Bad7 (b+3) n (F177 vc [123] [125] S T D i 0 0)) \/
 ∃l j,F253 wc S T D i=some (.inr (l,j))/\i+2<=j/\(nCs l:Int)+16<=8 * (j-i)/\j<=T.length/\isT (tp T i) [123]=true/\F177 vc [123] [125] S T D i 0 0=some (12,(tp T i).at_,[],l,j,0,0):=by
 have hT:=m.len
 rw[F253]
 rcases K0g (s:=[123]) (e:=[125]) m h o hb p (.inl rfl) q f t with⟨a,d⟩|⟨a,n,d,g⟩|⟨a,l,j,d,g1,u,x,⟨g,k⟩|⟨g,g3,k⟩⟩
 ·exact .inl ⟨_,by rw[Q7z f (by omega) a];rfl,d⟩
 ·refine .inl ⟨n,?_,g⟩
  rw[Q5h f (by omega) a]
  show Q0i (F47 wc false S T D (i+1)) _=_
  rw[d]
  rfl
 ·refine .inl ⟨_,?_,k⟩
  rw[Q5h f (by omega) a]
  show Q0i (F47 wc false S T D (i+1)) _=_
  rw[d]
  show Q0i (F255 [125] S T D j) _=_
  rw[Q7z (by omega) (by omega) g]
  rfl
 refine .inr ⟨l,j+1,?_,by omega,by omega,by omega,a,k⟩
 rw[Q5h f (by omega) a]
 show Q0i (F47 wc false S T D (i+1)) _=_
 rw[d]
 show Q0i (F255 [125] S T D j) _=_
 rw[Q5h (by omega) (by omega) g]
 rfl
theorem Z9f(vw:RWd)(m:Nat)(a:0<m)(j n:Int)(l:List Word):iter (Q3o S T D vw) m (j,47,n,l)=some (l,j,47,n):=by
 cases m with
 | zero=>omega
 | succ m=>
   show Q3o S T D vw (iter (Q3o S T D vw) m) (j,47,n,l)=_
   rw[Q3o]
   dsimp only
   rw[e47,Q0a]
theorem J1s(E:OkT T)(h:HW S T D b iw ww vw)(H:0<=iw)(hb:(T.length:Int)<=b)(d:Token)(wc:PCm)(i0:Int):
 ∀ (k m e f:Nat) (j:Int) (l:List Word),iw<=j->j<=T.length->(T.length:Int)<=j+k->k<m->k+1<e->k<f->(l.length:Int)<=j->(nWs l:Int)<=8 * (j-i0)->
 (∃n,iter (Q6k S T D ww d) m (j,l)=some (.inl n)/\iter (Q3t S T D ww wc d) f (j,l)=some (.inl n)/\Bad b n (iter (Q3o S T D vw) e (j,0,0,l))) \/
 (∃l' j' q,iter (Q3o S T D vw) e (j,0,0,l)=some (l',j',0,0)/\j<=j'/\j'<=T.length/\(bW (tp T j')=false/\(nWs l':Int)<=8 * (j'-i0))/\
   iter (Q6k S T D ww d) m (j,l)=some (.inr (Cmd.mk 16 d.at_ [] l' [] [],j'))/\iter (Q3t S T D ww wc d) f (j,l)=Q3t S T D ww wc d q (j',l'))
 | k,0,_,_,_,_,_,_,_,o,_,_,_,_=>absurd o (G1t _)
 | k,_,0,_,_,_,_,_,_,_,o,_,_,_=>absurd o (G1t _)
 | k,_,_,0,_,_,_,_,_,_,_,o,_,_=>absurd o (G1t _)
 | k,m+1,e+1,f+1,j,l,I,F,h3,h4,h5,h6,ak,J=>by
   have hT:=E.len
   have t:0<=j:=by omega
   have K:iter (Q3o S T D vw) (e+1) (j,0,0,l)=(bif bW (tp T j)then(vw S T D j 0 0).bind λ(L,M,p,s)=>(appO 88 l [L]).bind λO=>iter (Q3o S T D vw) e (M,p,s,O)else some (l,j,0,0)):=by
    show Q3o S T D vw (iter (Q3o S T D vw) e) (j,0,0,l)=_
    rw[Q3o]
    dsimp only
    rw[e00,Q0b,Z7k _ _ t,G0a]
   have Q:iter (Q6k S T D ww d) (m+1) (j,l)=(bif bW (tp T j)then Q0i (ww S T D j) λ(p,s)=>(appO 88 l [p]).bind λu=>iter (Q6k S T D ww d) m (s,u)else some (.inr (Cmd.mk 16 d.at_ [] l [] [],j))):=by
    show Q6k S T D ww d (iter (Q6k S T D ww d) m) (j,l)=_
    rw[Q6k]
    dsimp only
    rw[Q1t t (by omega),G0a,Q5n,G0a]
   have U:∀q,Q3t S T D ww wc d q (j,l)=(bif bW (tp T j)then Q0i (ww S T D j) λ(p,s)=>(appO 88 l [p]).bind λu=>q (s,u)else Q3t S T D ww wc d q (j,l)):=by
    intro q
    cases g:bW (tp T j)with
    | false=>rw[Q0a]
    | true=>
      rw[Q0b,Q3t]
      dsimp only
      rw[Q1t t (by omega),G0a,Q5n,G0a,g,Q0b]
   have V:iter (Q3t S T D ww wc d) (f+1) (j,l)=Q3t S T D ww wc d (iter (Q3t S T D ww wc d) f) (j,l):=rfl
   rw[K,Q,V]
   cases g:bW (tp T j)with
   | false=>exact .inr ⟨l,j,_,rfl,G5e _,F,⟨g,J⟩,rfl,rfl⟩
   | true=>
     rw[U,g,Q0b,Q0b,Q0b]
     have al:j<T.length:=by
      rcases G6e j T.length with x|x
      ·exact x
      rw[Z0y x]at g
      exact absurd g (by decide)
     rcases h.ag j I F with⟨a,y,z,A,W,g1,C⟩|⟨n,a,y,z,A,g1,C⟩
     ·rw[z,A,G0a]
      show(∃n,(appO 88 l [a]).bind _=_/\(appO 88 l [a]).bind _=_/\Bad b n ((appO 88 l [a]).bind _))\/∃l' j' q,(appO 88 l [a]).bind _=_/\_/\_/\_/\(appO 88 l [a]).bind _=_/\(appO 88 l [a]).bind _=_
      rw[Q0n (by simp only[G0h,G0j];omega),G0a,G0a,G0a]
      cases k with
      | zero=>omega
      | succ k=>
        rcases J1s E h H hb d wc i0 k m e f y (l++[a]) (by omega) C (by omega) (by omega) (by omega) (by omega) (by simp;omega) (by have:(nW a:Int)+5<=8 * (y-j):=W;rw[Z2j];omega)with X|⟨l',j',q,Y,q2,q3,q4,q5,q6⟩
        ·exact .inl X
        exact .inr ⟨l',j',q,Y,by omega,q3,q4,q5,q6⟩
     rw[z,A,G0a]
     refine .inl ⟨n,rfl,rfl,?_⟩
     dsimp only
     rw[Q0n (by simp only[G0h,G0j];omega),G0a,Z9f vw e (by omega)]
     exact Bad.mk g1 C
end
end Go.Abs.U48
namespace Go.Abs.U48
open Go Go.Proofs
section
variable {S:Str}{T:List Token}{D:List Str}{b ic iw:Int}{wc:PCm}{vc:RCm}{ww:PWd}{vw:RWd}{i j n:Int}
theorem K4b(h:bW (tp T i)=true)(d:0<=i):i<T.length:=by
 rcases G6e i T.length with a|a
 ·exact a
 rw[Z0y a]at h
 exact absurd h (by decide)
theorem X0z(t:OkT T)(h:HW S T D b iw ww vw)(I:0<=iw)(hb:(T.length:Int)<=b)(wc:PCm)(u:0<=i)(J:iw<=i+1)(U:i<T.length):
 (∃n,F230 ww S T D i=some (.inl n)/\F258 wc ww S T D i=some (.inl n)/\Bad b n (F206 vw S T D (i+1) 0 0)) \/
 (∃l j,F206 vw S T D (i+1) 0 0=some (l,j,0,0)/\i+1<j/\j<=T.length/\(bW (tp T j)=false/\(nWs l:Int)<=8 * (j-(i+1)))/\F230 ww S T D i=some (.inr (Cmd.mk 16 (tp T i).at_ [] l [] [],j))/\
   F258 wc ww S T D i=(F80 S T D j).bind λ(K,x)=>(bif K then Q0i (F47 wc true S T D x) λ(L,M)=>some (.inr (Cmd.mk 18 (tp T i).at_ [] l [] L,M))else some (.inr (Cmd.mk 18 (tp T i).at_ [] l [] [],x)))):=by
 have hT:=t.len
 rw[F230,F258,F206,Q1t u (by omega),G0a,G0a,wr1 u (by omega)]
 rcases h.ag (i+1) J (by omega)with⟨a,j,g,k,y,g1,e⟩|⟨n,a,j,g,k,g1,e⟩
 ·have y:(nW a:Int)+5<=8 * (j-(i+1)):=y
  rw[g,k,G0a]
  have z:∀ {β:Type} (f:Word×Int->Option (Int ⊕ β)),Q0i (some (.inr (a,j))) f=f (a,j):=λ_=>rfl
  rw[z,z]
  dsimp only
  rw[e00,Q0b,Q1t (by omega) (by omega),G0a,G0a,Q5n,G0a,G0a,Z7k _ _ (by omega),G0a]
  cases A:bW (tp T j)with
  | false=>exact .inr ⟨[a],j,rfl,by omega,e,⟨A,by simp only[nWs];omega⟩,rfl,rfl⟩
  | true=>
    have V:=K4b A (by omega)
    rw[Q0b,Q0b,Q0b]
    rcases h.ag j (by omega) e with⟨a2,d,m,o,C,g3,g4⟩|⟨n,a2,d,m,o,g3,g4⟩
    ·have C:(nW a2:Int)+5<=8 * (d-j):=C
     rw[m,o,G0a]
     have E:∀ {β:Type} (f:Word×Int->Option (Int ⊕ β)),Q0i (some (.inr (a2,d))) f=f (a2,d):=λ_=>rfl
     rw[E,E]
     dsimp only
     rw[Q0n (by simp only[G0h,G0j];omega),G0a,G0a,G0a]
     rcases J1s t h I hb (tp T i) wc (i+1) T.length BIG BIG BIG d ([a]++[a2]) (by omega) g4 (by omega) (by unfold BIG;omega) (by unfold BIG;omega) (by unfold BIG;omega) (by simp only[G0i,G0h,G0j];omega) (by rw[Z2j];simp only[nWs];omega)with⟨n,p,F,s⟩|⟨l',j',q,p,F,s,H,O,Q⟩
     ·exact .inl ⟨n,p,F,s⟩
     refine .inr ⟨l',j',p,by omega,s,H,O,?_⟩
     rw[Q,Q3t]
     dsimp only
     rw[Q1t (by omega) (by omega),G0a,Q5n,G0a,H.1,Q0a]
    rw[m,o,G0a]
    refine .inl ⟨n,rfl,rfl,?_⟩
    dsimp only
    rw[Q0n (by simp only[G0h,G0j];omega),G0a,Z9f vw BIG (by unfold BIG;omega)]
    exact Bad.mk g3 g4
 rw[g,k,G0a]
 refine .inl ⟨n,rfl,rfl,?_⟩
 dsimp only
 rw[e47,Q0a]
 exact Bad.mk g1 e
theorem K7b(e:OkT T)(h:HC S T D b ic wc vc)(hb:(T.length:Int)<=b)(c:Bool)(at_ k:Int)(l:List Cmd)(p:l.length<=10)(hk:k≠14){i0:Int}(q:(nCs l:Int)+1<=8 * (j-i0))(s:i0<j)(t:0<=j)(u:ic<=j)(y:j<=T.length):
 Ag (Kc i0) T.length (i0+1) (b+6) ((F168 S T D j).bind λx=>Q0i (wc c S T D x) λ(a,d)=>some (.inr (Cmd.mk k at_ [] [] [] (l++[a]),d))) (Q4i S T D vc at_ [] [] (j,0,0,k,l)):=by
 have hT:=e.len
 obtain⟨j',g,m,z,A,C⟩:=Q7a (S:=S) e (i:=j) (by omega) (by omega)
 rw[Q4i]
 dsimp only
 rw[g,G0a,m,G0a]
 refine Ag.bind (h.ag c j' (by omega) (by omega)) (λa d o g1 f=>?_) (λn a d g1 f=>?_)
 ·dsimp only
  rw[Q0n (by simp only[G0h,G0j];omega),G0a]
  exact Ag.ok ⟨show k≠14 from hk,by have:=o.2;rw[Q3r];simp only[nWs,nRs,Q8h];omega⟩ (by omega) f
 dsimp only
 rw[Q0n (by simp only[G0h,G0j];omega),G0a]
 exact Bad.mk g1 (by omega)
theorem Y0f(d:OkT T)(h:HC S T D b ic wc vc)(hb:(T.length:Int)<=b)(g:b<=3000000000000000000)(at_ k:Int)(l:List Cmd)(m:l.length<=10)(o:0<=j)(p:j<=b+4):
 Bad (b+6) n (Q4i S T D vc at_ [] [] (j,47,n,k,l)):=by
 have hT:=d.len
 obtain⟨j',q,e,s,t,u⟩:=Q7a (S:=S) d (i:=j) (by omega) (by omega)
 obtain⟨a,f⟩:=h.on j' n (by omega)
 rw[Q4i]
 dsimp only
 rw[e,G0a,f,G0a]
 dsimp only
 rw[Q0n (by simp only[G0h,G0j];omega),G0a]
 exact Bad.mk (by omega) (by omega)
theorem K6e(a:OkT T)(h:HC S T D b ic wc vc)(hb:(T.length:Int)<=b)(c:Bool)(d:0<=i)(e:ic<=i+1)(f:i+1<T.length):
 Ag (Kc i) T.length (i+1) (b+6) (F224 wc 9 2 c S T D i) (Q4i S T D vc (tp T i).at_ [] [] (i+2,0,0,9,[])):=by
 have hT:=a.len
 rw[F224,Q1t d (by omega),G0a,G0e rfl,Q0b,wr2 d (by omega)]
 exact K7b a h hb c (tp T i).at_ 9 [] (by decide) (by decide) (by simp only[nCs];omega) (by omega) (by omega) (by omega) (by omega)
theorem X0m(m:OkT T)(h:HC S T D b ic wc vc)(E:0<=ic)(hb:(T.length:Int)<=b)(H:b<=2000000000000000000)(c:Bool)(k:Int)(hk:k≠14)(C:0<=i)(I:ic<=i+1)(J:i<T.length):
 Ag (Kc i) T.length (i+1) (b+6) (F226 wc k c S T D i) ((F177 vc [40] [41] S T D (i+1) 0 0).bind λ(o,p,q,t,u,x,y)=>
  (appO 104 ([]:List Cmd) [Cmd.mk o p q [] [] t]).bind λz=>Q4i S T D vc (tp T i).at_ [] [] (u,x,y,k,z)):=by
 have hT:=m.len
 have bad:∀n,Bad7 (b+3) n (F177 vc [40] [41] S T D (i+1) 0 0)->Bad (b+6) n ((F177 vc [40] [41] S T D (i+1) 0 0).bind λ(o,p,q,t,u,x,y)=>
  (appO 104 ([]:List Cmd) [Cmd.mk o p q [] [] t]).bind λz=>Q4i S T D vc (tp T i).at_ [] [] (u,x,y,k,z)):=by
  intro n ⟨K,a,nm,l,j,e,g1,F⟩
  rw[e,G0a]
  dsimp only
  rw[Q0n (by simp only[G0h,G0j];omega),G0a]
  exact Y0f m h hb (by omega) _ _ _ (by simp) g1 (by omega)
 rw[F226,Q1t C (by omega),G0a,wr1 C (by omega)]
 rcases K0g (i:=i+1) (s:=[40]) (e:=[41]) m h E hb (by omega) (.inr rfl) (by omega) (by omega) (by omega)with⟨d,f⟩|⟨d,n,f,g⟩|⟨d,l,j,f,g1,F,L,⟨g,A⟩|⟨g,g3,A⟩⟩
 ·rw[Q7z (by omega) (by omega) d]
  exact Ag.bad (bad _ f) rfl
 ·rw[Q5h (by omega) (by omega) d]
  refine Ag.bad (bad n g) ?_
  show Q0i (F47 wc false S T D (i+1+1)) _=_
  rw[f]
  rfl
 ·rw[Q5h (by omega) (by omega) d]
  refine Ag.bad (bad _ A) ?_
  show Q0i (F47 wc false S T D (i+1+1)) _=_
  rw[f]
  show Q0i (F255 [41] S T D j) _=_
  rw[Q7z (by omega) (by omega) g]
  rfl
 rw[Q5h (by omega) (by omega) d,A,G0a]
 dsimp only
 rw[Q0n (by simp only[G0h,G0j];omega),G0a]
 show Ag _ _ _ _ (Q0i (F47 wc false S T D (i+1+1)) _) _
 rw[f]
 show Ag _ _ _ _ (Q0i (F255 [41] S T D j) _) _
 rw[Q5h (by omega) (by omega) g]
 exact K7b m h hb c (tp T i).at_ k [Cmd.mk 12 (tp T (i+1)).at_ [] [] [] l] (by simp) hk (by simp only[nCs,Q3r (Cmd.mk _ _ _ _ _ _),nWs,nRs];omega) (by omega) (by omega) (by omega) (by omega)
theorem V1m(d:OkT T)(h:HC S T D b ic wc vc)(hw:HW S T D b iw ww vw)(aD:0<=ic)(aj:0<=iw)(hb:(T.length:Int)<=b)(aE:b<=2000000000000000000)(c:Bool)(h0:0<=i)(h1:ic<=i+1)(aG:iw<=i+1)(h2:i<T.length):
 Ag (Kc i) T.length (i+1) (b+6) (F227 wc ww c S T D i) ((F174 [40] S T D (i+1) 0 0).bind λ(ak,al,am)=>
  (F173 S T D ak al am).bind λ(ae,I,J,K)=>
  (F140 [105,110] S T D I J K).bind λL=>
  (bif L then
    (F205 vw S T D (IntKind.wrap .i64 (I+1)) J K).bind λ(M,O,x,y)=>
    (F97 S T D O x y).bind λf=>
    (vc S T D f x y).bind λ(g,k,m,o)=>
    (appO 104 ([]:List Cmd) [g]).bind λp=>
    some (Cmd.mk 10 (tp T i).at_ ae M [] p,k,m,o)
  else
   (F174 [41] S T D I J K).bind λ(Q,z,A)=>
   (F97 S T D Q z A).bind λU=>
   (vc S T D U z A).bind λ(V,W,X,Y)=>
   (appO 104 ([]:List Cmd) [V]).bind λac=>
   some (Cmd.mk 10 (tp T i).at_ ae [Word.mk 2 [42] [] [] []] [] ac,W,X,Y))):=by
 have hT:=d.len
 have C:∀ (r:Str) (q:List Word) (j n:Int),0<=j->j<=b+5->Bad (b+6) n ((F97 S T D j 47 n).bind λf=>(vc S T D f 47 n).bind λ(g,k,m,o)=>(appO 104 ([]:List Cmd) [g]).bind λp=>some (Cmd.mk 10 (tp T i).at_ r q [] p,k,m,o)):=by
  intro r q j n g1 s
  obtain⟨j',t,e,E,e4,e5⟩:=Q7a (S:=S) d (i:=j) (by omega) (by omega)
  obtain⟨a,ea⟩:=h.on j' n (by omega)
  rw[e,G0a,ea,G0a]
  dsimp only
  rw[Q0n (by simp only[G0h,G0j];omega),G0a]
  exact Bad.mk (by omega) (by omega)
 have af:∀ (r:Str) (q:List Word) (j:Int),(nWs q:Int)+1<=8 * (j-i)->i<j->j<=T.length->Ag (Kc i) T.length (i+1) (b+6) ((F168 S T D j).bind λau=>Q0i (wc c S T D au) λ(av,aw)=>some (.inr (Cmd.mk 10 (tp T i).at_ r q [] [av],aw)))
  ((F97 S T D j 0 0).bind λf=>(vc S T D f 0 0).bind λ(g,k,m,o)=>(appO 104 ([]:List Cmd) [g]).bind λp=>some (Cmd.mk 10 (tp T i).at_ r q [] p,k,m,o)):=by
  intro r q j hN g1 s
  obtain⟨j',t,e,E,e4,e5⟩:=Q7a (S:=S) d (i:=j) (by omega) (by omega)
  rw[t,G0a,e,G0a]
  refine Ag.bind (h.ag c j' (by omega) (by omega)) (λa j2 g0 g1 s=>?_) (λn a j2 g1 s=>?_)
  ·dsimp only
   rw[Q0n (by simp only[G0h,G0j];omega),G0a]
   exact Ag.ok ⟨show(10:Int)≠14 by decide,by have:=g0.2;rw[Q3r];simp only[G1y,nRs,nCs];omega⟩ (by omega) s
  dsimp only
  rw[Q0n (by simp only[G0h,G0j];omega),G0a]
  exact Bad.mk g1 (by omega)
 have ag:∀ (r:Str) (j n:Int),0<=j->j<=b+3->Bad (b+6) n ((F140 [105,110] S T D j 47 n).bind λL=>
  (bif L then
    (F205 vw S T D (IntKind.wrap .i64 (j+1)) 47 n).bind λ(M,O,x,y)=>
    (F97 S T D O x y).bind λf=>
    (vc S T D f x y).bind λ(g,k,m,o)=>
    (appO 104 ([]:List Cmd) [g]).bind λp=>
    some (Cmd.mk 10 (tp T i).at_ r M [] p,k,m,o)
  else
   (F174 [41] S T D j 47 n).bind λ(Q,z,A)=>
   (F97 S T D Q z A).bind λU=>
   (vc S T D U z A).bind λ(V,W,X,Y)=>
   (appO 104 ([]:List Cmd) [V]).bind λac=>
   some (Cmd.mk 10 (tp T i).at_ r [Word.mk 2 [42] [] [] []] [] ac,W,X,Y))):=by
  intro r j n g1 s
  rw[Z0v _ _ _ d g1,G0a]
  cases keyT (tp T j) [105,110]with
  | true=>
    rw[Q0b,wr1 g1 (by omega),F205,Z7j vw BIG (by unfold BIG;omega),G0a]
    exact C r [] (j+1) n (by omega) (by omega)
  | false=>
    rw[Q0a,Z0t _ g1 (by omega),G0a]
    exact C r _ (j+1) n (by omega) (by omega)
 rw[F227,Q1t h0 (by omega),G0a,wr1 h0 (by omega)]
 cases F:isT (tp T (i+1)) [40]with
 | false=>
   rw[Q7z (by omega) (by omega) F,J3r (by omega) (by omega) F,G0a]
   dsimp only
   refine Ag.bad ?_ rfl
   rw[X6d d (by omega) (by omega),G0a]
   exact ag (tp T (i+1+1)).text_ (i+1+1+1) (atf S T (i+1)) (by omega) (by omega)
 | true=>
   have aJ:=Q3g F (by omega)
   rw[Q5h (by omega) (by omega) F,Z7l (by omega) (by omega) F,G0a]
   dsimp only
   show Ag _ _ _ _ (Q0i (F256 S T D (i+1+1)) _) _
   cases u:(plT (tp T (i+1+1))&&Q3q (tp T (i+1+1)).text_)with
   | false=>
     rw[J8e d (by omega) (by omega) u,J8f d (by omega) (by omega) u,G0a]
     dsimp only
     refine Ag.bad ?_ rfl
     exact ag (tp T (i+1+1)).text_ (i+1+1+1) (atf S T (i+1+1)) (by omega) (by omega)
   | true=>
     have aK:=J6x (T:=T) (i:=i+1+1) (by rw[G0k]at u;exact u.1) (by omega)
     rw[J8d d (by omega) (by omega) u,J3s d (by omega) (by omega) u,G0a]
     dsimp only
     show Ag _ _ _ _ ((F84 0 S T D (i+1+1+1)).bind _) _
     rw[Q1t (by omega) (by omega),G0a,Z6w (d.tl _).1,G0a,Q4g (by kernel_rfl),Z0v _ _ _ d (by omega),G0a]
     cases az:keyT (tp T (i+1+1+1)) [105,110]with
     | true=>
       have aL:=J3y (T:=T) (i:=i+1+1+1) (by rw[Z8j az];decide) (by omega)
       rw[Q0b,Q0b,wr1 (by omega) (by omega)]
       rcases Z9r d hw aj hb (i:=i+1+1+1+1) (by omega) (by omega)with⟨n,t,aa,j,e,g1,s⟩|⟨l,j,t,g1,s,g3,⟨e,E⟩|⟨e,aa,j3,E,g4,g5⟩⟩
       ·rw[t,e,G0a]
        dsimp only
        exact Ag.bad (C _ _ j n g1 (by omega)) rfl
       ·rw[t,E,G0a]
        have aC:=Q3g e (by omega)
        show Ag _ _ _ _ (Q0i (F255 [41] S T D j) _) _
        rw[Q5h (by omega) (by omega) e]
        exact af _ l (j+1) (by have:=g3.2;omega) (by omega) (by omega)
       rw[t,E,G0a]
       dsimp only
       refine Ag.bad (C _ _ j3 _ g4 (by omega)) ?_
       show Q0i (F255 [41] S T D j) _=_
       rw[Q7z (by omega) (by omega) e]
       rfl
     | false=>
       rw[Q0a,Q0a]
       cases H:isT (tp T (i+1+1+1)) [41]with
       | false=>
         rw[Q7z (by omega) (by omega) H,J3r (by omega) (by omega) H,G0a]
         dsimp only
         exact Ag.bad (C _ _ (i+1+1+1+1) _ (by omega) (by omega)) rfl
       | true=>
         have aC:=Q3g H (by omega)
         rw[Q5h (by omega) (by omega) H,Z7l (by omega) (by omega) H,G0a]
         exact af _ _ (i+1+1+1+1) (by simp only[nWs,Q6s (Word.mk _ _ _ _ _),nCs];omega) (by omega) (by omega)
theorem Y2w(d:OkT T)(h:HC S T D b ic wc vc)(A:0<=ic)(hb:(T.length:Int)<=b)(F:b<=2000000000000000000)(t:0<=i)(H:ic<=i+1)(I:i<T.length):
 Ag (Kc i) T.length (i+1) (b+6) (F229 wc S T D i) ((F173 S T D (i+1) 0 0).bind λ(g,m,o,p)=>
  (F58 [123] S T D m o p).bind λC=>
  (bif C then
    (F177 vc [123] [125] S T D m o p).bind λ(J,K,L,u,x,y,z)=>
    (bif decide ((u.length:Int)=0)then
      some (Cmd.mk 15 (tp T i).at_ g [] [] [Cmd.mk 12 0 [] [] [] []],x,y,z)
    else
     some (Cmd.mk 15 (tp T i).at_ g [] [] u,x,y,z))
  else
   some (Cmd.mk 15 (tp T i).at_ g [] [] ([]:List Cmd),m,o,p))):=by
 have hT:=d.len
 rw[F229,Q1t t (by omega),G0a,wr1 t (by omega)]
 cases f:(plT (tp T (i+1))&&Q3q (tp T (i+1)).text_)with
 | false=>
   rw[J8e d (by omega) (by omega) f,J8f d (by omega) (by omega) f,G0a]
   dsimp only
   refine Ag.bad ?_ rfl
   rw[Q1m _ _ _ (by omega),G0a]
   cases isT (tp T (i+1+1)) [123]with
   | false=>exact Bad.mk (j:=i+1+1) (by omega) (by omega)
   | true=>
     rw[Q0b]
     obtain⟨a,e⟩:=X6b (S:=S) (T:=T) (D:=D) (n:=atf S T (i+1)) vc [123] [125] (i:=i+1+1) (by omega) (by omega)
     rw[e,G0a]
     exact Bad.mk (j:=i+1+1+2) (by omega) (by omega)
 | true=>
   have M:=J6x (T:=T) (i:=i+1) (by rw[G0k]at f;exact f.1) (by omega)
   rw[J8d d (by omega) (by omega) f,J3s d (by omega) (by omega) f,G0a]
   dsimp only
   show Ag _ _ _ _ ((F127 [123] S T D (i+1+1)).bind _) _
   rw[J1n _ (by omega) (by omega),G0a,Q1m _ _ _ (by omega),G0a]
   cases O:isT (tp T (i+1+1)) [123]with
   | false=>exact Ag.ok ⟨show(15:Int)≠14 by decide,by rw[Q3r];simp only[nWs,nRs,nCs];omega⟩ (by omega) (by omega)
   | true=>
     simp only[G0u,Q0a,Q0b]
     rcases Z6m d h A hb (by omega) (i:=i+1+1) (by omega) (by omega) (by omega)with⟨n,q,k,a,nm,l,j,s,g1,E⟩|⟨l,j,q,g1,g3,E,-,s⟩
     ·rw[q,s,G0a]
      dsimp only
      refine Ag.bad ?_ rfl
      cases decide ((l.length:Int)=0)<;>exact Bad.mk g1 (by omega)
     rw[q,s,G0a]
     show Ag _ _ _ _ (bif decide ((l.length:Int)=0)then _ else _) _
     dsimp only
     cases decide ((l.length:Int)=0)<;>exact Ag.ok ⟨show(15:Int)≠14 by decide,by rw[Q3r];simp only[nWs,nRs,nCs,Q3r (Cmd.mk 12 _ _ _ _ _)];omega⟩ (by omega) (by omega)
end
end Go.Abs.U48
namespace Go.Abs.U48
open Go Go.Proofs
section
variable {S:Str}{T:List Token}{D:List Str}{b ic iw:Int}{wc:PCm}{vc:RCm}{ww:PWd}{vw:RWd}{i j n:Int}
theorem Q3k{α β:Type}(a:α)(f:α->Option (Int ⊕ β)):Q0i (some (.inr a)) f=f a:=rfl
theorem Q4h{α β:Type}(n:Int)(f:α->Option (Int ⊕ β)):Q0i (some (.inl n)) f=some (.inl n):=rfl
theorem J0h{s:Str}(h:bW (tp T j)=false):keyT (tp T j) s=false:=by
 cases hk:keyT (tp T j) s with
 | false=>rfl
 | true=>
   rw[bW,Z8j hk]at h
   cases h
theorem K5a(d:OkT T)(wc:PCm)(c:Bool){a:Int}(p:0<=j)(q:j<=T.length)(f:0<=a)(s:a<=T.length){g:Bool}(e:∀k,F80 S T k j=some (g,a))(l:gapT (tp T a)=false):F47 wc c S T D a=F47 wc c S T D j:=by
 have hT:=d.len
 obtain⟨t,m,-,-,-,-,-,o⟩:=Q8o (S:=S) d (i:=a) f (by omega)
 have:=o l
 subst this
 rw[F47,F47,e,m]
 rfl
theorem X0r(vw:RWd)(vc:RCm)(at_:Int)(r:Word)(m:Nat)(d:0<m)(l:List Cmd)(a:0<=j)(h:j<=4000000000000000000):
 iter (Q1w S T D vw vc at_ [] r []) m (j,47,n,l)=some (Cmd.mk 17 at_ [] [r] [] l,j+1,47,n):=by
 cases m with
 | zero=>omega
 | succ m=>
   show Q1w S T D vw vc at_ [] r [] (iter (Q1w S T D vw vc at_ [] r []) m) (j,47,n,l)=_
   rw[Q1w]
   dsimp only
   rw[e47,Q0a,Z0t _ a h,G0a]
theorem J4d(o:OkT T)(h:HC S T D b ic wc vc)(F:HW S T D b iw ww vw)(H:0<=ic)(I:0<=iw)(hb:(T.length:Int)<=b)(M:b<=2000000000000000000)(f:Token)(r:Word)(i0:Int):
 ∀ (k m g:Nat) (j:Int) (l:List Cmd),ic<=j->iw<=j->i0<j->j<=T.length->(T.length:Int)<=j+k->k+1<m->k+1<g->(l.length:Int)<=j->(nW r:Int)+nCs l+5<=8 * (j-i0)->
 Ag (Kc i0) T.length (i0+1) (b+6) (iter (Q7s S T D wc ww f r) m (j,l)) (iter (Q1w S T D vw vc f.at_ [] r []) g (j,0,0,l))
 | k,0,_,_,_,_,_,_,_,_,C,_,_,_=>absurd C (G1t _)
 | k,_,0,_,_,_,_,_,_,_,_,C,_,_=>absurd C (G1t _)
 | k,m+1,g+1,j,l,h1,aD,hi,X,h3,h4,h5,aI,hN=>by
   have hT:=o.len
   have p:0<=j:=by omega
   have O:∀ (m:Nat) (j:Int) (l:List Cmd),0<=j->j<=T.length->iter (Q7s S T D wc ww f r) (m+1) (j,l)=(bif keyT (tp T j) Q9p then
    Q0i (F258 wc ww S T D j) λ(Y,aa)=>(appO 104 l [Y]).bind λac=>iter (Q7s S T D wc ww f r) m (aa,ac)
    else Q0i (F255 [125] S T D j) λ(aK,ad)=>some (.inr (Cmd.mk 17 f.at_ [] [r] [] l,ad))):=by
    intro m j l A g1
    show Q7s S T D wc ww f r (iter (Q7s S T D wc ww f r) m) (j,l)=_
    rw[Q7s]
    dsimp only
    rw[Q1t A (by omega),G0a,Z6w (o.tl _).1,G0a,Q4g (by kernel_rfl)]
   have Q:∀ (m:Nat) (j:Int) (l:List Cmd),0<m->0<=j->j<=T.length->keyT (tp T j) Q9p=false->isT (tp T j) [125]=false->iter (Q7s S T D wc ww f r) m (j,l)=some (.inl (atf S T j)):=by
    intro m j l C A g1 y g3
    cases m with
    | zero=>omega
    | succ m=>
      rw[O m j l A g1,y,Q0a,Q7z A (by omega) g3]
      rfl
   rw[O m j l p X]
   show Ag _ _ _ _ _ (Q1w S T D vw vc f.at_ [] r [] (iter (Q1w S T D vw vc f.at_ [] r []) g) (j,0,0,l))
   rw[Q1w]
   dsimp only
   rw[e00,Q0b,Z0v _ _ _ o p,G0a]
   cases hk:keyT (tp T j) [99,97,115,101]with
   | false=>
     rw[Q0a,Q0a]
     cases x:isT (tp T j) [125]with
     | true=>
       have J:=Q3g x p
       rw[Q5h p (by omega) x,Z7l p (by omega) x]
       exact Ag.ok ⟨show(17:Int)≠14 by decide,by rw[Q3r];simp only[nWs,nRs];omega⟩ (by omega) (by omega)
     | false=>
       rw[Q7z p (by omega) x,J3r p (by omega) x]
       exact Ag.no (by omega) (by omega)
   | true=>
     have J:=J3y (T:=T) (i:=j) (by rw[Z8j hk];decide) p
     rw[Q0b,Q0b,Z6z 0 0 p J,G0a,wr1 p (by omega)]
     have U:∀ (j' n:Int) (u:List Word),0<=j'->j'<=b+1->Bad (b+6) n (Q2n vc S T D j' l (tp T j) u (iter (Q1w S T D vw vc f.at_ [] r []) g) (47,n)):=by
      intro j' n u A g1
      rw[Q2n]
      dsimp only
      rw[F24,Z9e _ vc BIG (by unfold BIG;omega),G0a]
      dsimp only
      rw[Q0n (by simp only[G0h,G0j];omega),G0a,X0r vw vc _ r g (by omega) _ A (by omega)]
      exact Bad.mk (by omega) (by omega)
     cases k with
     | zero=>omega
     | succ k=>
     rcases X0z o F I hb wc (i:=j) p (by omega) J with⟨n,-,e2,a,j',K,g1,y⟩|⟨u,d,e1,g1,y,⟨ag,aL⟩,-,K⟩
     ·rw[e2,K,G0a]
      dsimp only
      rw[e47,Q0a]
      exact Ag.bad (U j' n a g1 (by omega)) rfl
     rw[e1,K,G0a]
     dsimp only
     rw[e00,Q0b]
     obtain⟨t,et,k1,-⟩:=Q2l (S:=S) (T:=T) (D:=D) 0 0 (show 0<=d by omega)
     rw[et,G0a,Q1m _ _ _ (by omega),G0a,Z9a _ _ _ o (by omega) (by omega),G0a,Z1y _ (by omega),G0a,k1]
     dsimp only
     obtain⟨q,V,q2,q3,q4,q5,q6,q7⟩:=Q8o (S:=S) o (i:=d) (by omega) (by omega)
     rw[V,G0a]
     dsimp only
     have W:keyT (tp T d) Q9p=false:=J0h ag
     have am:csT T d=false:=by rw[csT,show keyT (tp T d) [99,97,115,101]=false from W];rfl
     have hr:(bif !decide ((tp T d).kind_=3)then
      (bif !isT (tp T d) [59]then
        (bif !stpT [99,97,115,101] T d then
          Q2n vc S T D d l (tp T j) u (iter (Q1w S T D vw vc f.at_ [] r []) g) (47,atf S T d)
        else
         Q2n vc S T D d l (tp T j) u (iter (Q1w S T D vw vc f.at_ [] r []) g) (0,0))
      else
       Q2n vc S T D d l (tp T j) u (iter (Q1w S T D vw vc f.at_ [] r []) g) (0,0))
      else
       Q2n vc S T D d l (tp T j) u (iter (Q1w S T D vw vc f.at_ [] r []) g) (0,0))=
       (bif gapT (tp T d)||isT (tp T d) [125]then Q2n vc S T D d l (tp T j) u (iter (Q1w S T D vw vc f.at_ [] r []) g) (0,0)
         else Q2n vc S T D d l (tp T j) u (iter (Q1w S T D vw vc f.at_ [] r []) g) (47,atf S T d)):=by
      have aq:stpT [99,97,115,101] T d=isT (tp T d) [125]:=by
       show(csT T d||isT (tp T d) [125])=_
       rw[am,G1p]
      rw[aq,gapT]
      cases decide ((tp T d).kind_=3)<;>cases isT (tp T d) [59]<;>cases isT (tp T d) [125]<;>rfl
     rw[hr]
     have hL:=J4s o h H hb (by omega) (c:=true) (e:=Q9p) (.inl ⟨rfl,rfl⟩) (i:=d) (by omega) y
     cases hg:gapT (tp T d)with
     | true=>
       have av:q<=T.length:=by omega
       rw[Q0b,G3d,Q0b,K5a o wc true (by omega) y (by omega) av V q5,Q2n]
       dsimp only
       rcases hL with⟨n,E,a,j',z,g3,g4⟩|⟨l2,s,E,g3,g4,gN,g5,⟨z,L⟩|⟨z,a,j',L,g6,g7⟩⟩
       ·rw[E,Q4h,Q4h,show F24 vc [99,97,115,101] S T D d 0 0=_ from z,G0a]
        dsimp only
        rw[Q0n (by simp only[G0h,G0j];omega),G0a,X0r vw vc _ r g (by omega) _ g3 (by omega)]
        exact Ag.no (by omega) (by omega)
       ·rw[E,Q3k,Q3k,show F24 vc [99,97,115,101] S T D d 0 0=_ from L,G0a]
        dsimp only
        rw[Q0n (by simp only[G0h,G0j];omega),G0a,G0a]
        exact J4d o h F H I hb M f r i0 k m g s _ (by omega) (by omega) (by omega) g4 (by omega) (by omega) (by omega) (by simp;omega) (by rw[Q8h,Q3r (Cmd.mk _ _ _ _ _ _)];simp only[nRs];omega)
       have ay:keyT (tp T s) Q9p=false:=by
        cases az:keyT (tp T s) Q9p with
        | false=>rfl
        | true=>
          have:=g5 rfl az
          rw[show stpT Q9p T s=(csT T s||isT (tp T s) [125]) from rfl,this]at z
          cases z
       have aA:isT (tp T s) [125]=false:=by
        rw[show stpT Q9p T s=(csT T s||isT (tp T s) [125]) from rfl,G1x]at z
        exact z.2
       rw[E,Q3k,Q3k,show F24 vc [99,97,115,101] S T D d 0 0=_ from L,G0a]
       dsimp only
       rw[Q0n (by simp only[G0h,G0j];omega),G0a,Q m s _ (by omega) (by omega) g4 ay aA]
       rw[Q0n (by simp only[G0h,G0j];omega),G0a,X0r vw vc _ r g (by omega) _ g6 (by omega)]
       exact Ag.no (by omega) (by omega)
     | false=>
       have:=q7 hg
       subst this
       rw[Q0a,Q3k,G1p]
       dsimp only
       rw[Q0n (by simp only[G0h,G0j];omega),G0a]
       cases x:isT (tp T q) [125]with
       | false=>
         rw[Q0a,Q m q _ (by omega) (by omega) y W x]
         exact Ag.bad (U q _ u (by omega) (by omega)) rfl
       | true=>
         rw[Q0b,Q2n]
         dsimp only
         have hF:F24 vc [99,97,115,101] S T D q 0 0=some ([],q,0,0):=by
          show Q2g S T D [99,97,115,101] vc (iter (Q2g S T D [99,97,115,101] vc) 1180591620717411303423) (q,0,0,[])=_
          rw[Q2g]
          dsimp only
          rw[e00,Q0b,q2,G0a,Z9a _ _ _ o (by omega) (by omega),G0a]
          rw[show stpT [99,97,115,101] T q=(csT T q||isT (tp T q) [125]) from rfl,x,G5r,Q0b]
         rw[hF,G0a]
         dsimp only
         rw[Q0n (by simp only[G0h,G0j];omega),G0a]
         exact J4d o h F H I hb M f r i0 k m g q _ (by omega) (by omega) (by omega) y (by omega) (by omega) (by omega) (by simp;omega) (by rw[Q8h,Q3r (Cmd.mk _ _ _ _ _ _)];simp only[nRs,nCs];omega)
theorem V9l(d:OkT T)(h:HC S T D b ic wc vc)(l:HW S T D b iw ww vw)(y:0<=ic)(z:0<=iw)(hb:(T.length:Int)<=b)(A:b<=2000000000000000000)(m:0<=i)(M:ic<=i+1)(O:iw<=i+1)(Q:i<T.length):
 Ag (Kc i) T.length (i+1) (b+6) (F228 wc ww S T D i) ((vw S T D (i+1) 0 0).bind λ(C,E,F,H)=>
  (F174 [123] S T D E F H).bind λ(I,o,p)=>
  (F55 S T D I o p).bind λJ=>
  iter (Q1w S T D vw vc (tp T i).at_ [] C []) BIG (J,o,p,([]:List Cmd))):=by
 have hT:=d.len
 rw[F228,Q1t m (by omega),G0a,wr1 m (by omega)]
 refine Ag.bind (l.ag (i+1) (by omega) (by omega)) (λa j K g1 L=>?_) (λn a j g1 L=>?_)
 ·dsimp only
  cases e:isT (tp T j) [123]with
  | true=>
    have U:=Q3g e (by omega)
    rw[Q5h (by omega) (by omega) e,Z7l (by omega) (by omega) e,Q3k,G0a]
    obtain⟨g,k,f,q,s,t,u,x⟩:=Q8o (S:=S) d (i:=j+1) (by omega) (by omega)
    dsimp only
    rw[k,G0a,f,G0a]
    exact J4d d h l y z hb A (tp T i) a i T.length BIG BIG g [] (by omega) (by omega) (by omega) (by omega) (by omega) (by unfold BIG;omega) (by unfold BIG;omega) (by simp;omega) (by have:(nW a:Int)+5<=8 * (j-(i+1)):=K;simp only[nCs];omega)
  | false=>
    rw[Q7z (by omega) (by omega) e,J3r (by omega) (by omega) e,Q4h,G0a]
    obtain⟨g,k,f,q,s,t,u,x⟩:=Q8o (S:=S) d (i:=j+1) (by omega) (by omega)
    dsimp only
    rw[f,G0a,X0r vw vc _ a BIG (by unfold BIG;omega) _ (by omega) (by omega)]
    exact Ag.no (by omega) (by omega)
 dsimp only
 rw[Z0t _ g1 (by omega),G0a]
 obtain⟨g,k,f,q,s,t,u,x⟩:=Q8o (S:=S) d (i:=j+1) (by omega) (by omega)
 dsimp only
 rw[f,G0a,X0r vw vc _ a BIG (by unfold BIG;omega) _ (by omega) (by omega)]
 exact Bad.mk (by omega) (by omega)
theorem X4n(f:OkT T)(h:HC S T D b ic wc vc)(t:HW S T D b iw ww vw)(hb:(T.length:Int)<=b)(L:b<=2000000000000000000)(c:Bool)(m:0<=i)(M:ic<=i+1)(O:iw<=i+1)(g:asg T i=true):
 Ag (Kc i) T.length (i+1) (b+6) (F223 wc ww c S T D i) ((F173 S T D i 0 0).bind λ(o,u,x,y)=>
  (F174 [61] S T D u x y).bind λ(z,A,C)=>
  (vw S T D z A C).bind λ(p,k,e,l)=>
  (bif decide (e=0)then
    (F176 S T D k e l).bind λE=>
    (bif E then
      (vc S T D k e l).bind λ(F,H,I,J)=>
      some (Cmd.mk 2 (tp T i).at_ o [p] ([]:List Redir) [F],H,I,J)
    else
     some (Cmd.mk 2 (tp T i).at_ o [p] ([]:List Redir) [],k,e,l))
  else
   some (Cmd.mk 2 (tp T i).at_ o [p] ([]:List Redir) [],k,e,l))):=by
 have hT:=f.len
 rw[asg,G0k]at g
 have Q:=Q3g g.2 (by omega)
 rw[F223,Q1t m (by omega),G0a,wr2 m (by omega),J3s f m (by omega) g.1,G0a]
 dsimp only
 rw[Z7l (by omega) (by omega) g.2,G0a]
 dsimp only
 rw[show i+1+1=i+2 by omega]
 refine Ag.bind (t.ag (i+2) (by omega) (by omega)) (λa j s g1 d=>?_) (λn a j g1 d=>?_)
 ·dsimp only
  rw[K4u f (by omega) (by omega),G0a,e00,Q0b,K5h _ _ f (by omega),G0a]
  cases bC (tp T j)with
  | false=>exact Ag.ok ⟨show(2:Int)≠14 by decide,by have:(nW a:Int)+5<=8 * (j-(i+2)):=s;rw[Q3r];simp only[nWs,nRs,nCs];omega⟩ (by omega) d
  | true=>
    rw[Q0b,Q0b]
    refine Ag.bind (h.ag c j (by omega) d) (λa2 q K g1 d=>?_) (λn a2 q g1 d=>?_)
    ·exact Ag.ok (j:=q) ⟨show(2:Int)≠14 by decide,by have:(nW a:Int)+5<=8 * (j-(i+2)):=s;have:=K.2;rw[Q3r];simp only[nWs,nRs,nCs];omega⟩ (by omega) d
    exact Bad.mk (j:=q) g1 (by omega)
 dsimp only
 rw[e47,Q0a]
 exact Bad.mk g1 (by omega)
theorem X9k(f:OkT T)(h:HC S T D b ic wc vc)(hb:(T.length:Int)<=b)(c:Bool)(k:Int)(hk:k≠14)(g:k≠9)(d:0<=i)(s:ic<=i+1)(t:i<T.length):
 Ag (Kc i) T.length (i+1) (b+6) (F224 wc k 1 c S T D i) ((vc S T D (i+1) 0 0).bind λ(l,m,o,p)=>some (Cmd.mk k (tp T i).at_ [] [] ([]:List Redir) [l],m,o,p)):=by
 have hT:=f.len
 rw[F224,Q1t d (by omega),G0a,G0d g,Q0a,wr1 d (by omega),Z7i]
 refine Ag.bind (h.ag c (i+1) (by omega) (by omega)) (λa2 a q g1 e=>?_) (λn a2 a g1 e=>?_)
 ·exact Ag.ok (j:=a) ⟨show k≠14 from hk,by have:=q.2;rw[Q3r];simp only[nWs,nRs,nCs];omega⟩ (by omega) e
 exact Bad.mk (j:=a) g1 (by omega)
end
end Go.Abs.U48
namespace Go.Abs.U48
open Go Go.Proofs
def lev(k:Int):Int:=
 bif (decide (k=1)||(decide (k=2)||(decide (k=7)||(decide (k=8)||(decide (k=9)||(decide (k=10)||(decide (k=11)||(decide (k=12)||(decide (k=13)||(decide (k=15)||(decide (k=16)||decide (k=17))))))))))))then 1
 else bif decide (k=3)then 2 else bif (decide (k=5)||decide (k=6))then 3 else bif decide (k=14)then 4 else 0
def lvl(a k:Int):Bool:=!(decide (lev k<1)||decide (a<lev k))
def K5z(k:Int)(nm:Str)(w r c:Nat):Bool:=
 bif (((((decide (k=2)||decide (k=10))||decide (k=15))&&!Q3q nm)||(!((decide (k=2)||decide (k=10))||decide (k=15))&&!decide (nm=[])))||((decide (0<r)&&!decide (k=1))&&!decide (k=12)))then false
 else bif decide (k=1)then(decide (0<w+r)&&decide (c=0))
 else bif decide (k=2)then(decide (w=1)&&decide (c<=1))
 else bif (decide (k=7)||(decide (k=13)||(decide (k=9)||decide (k=14))))then(decide (w=0)&&decide (c=1))
 else bif (decide (k=8)||(decide (k=11)||(decide (k=5)||decide (k=6))))then(decide (w=0)&&decide (c=2))
 else bif decide (k=10)then decide (c=1)
 else bif (decide (k=12)||decide (k=15))then decide (w=0)
 else bif decide (k=3)then(decide (w=0)&&decide (2<=c))
 else bif decide (k=16)then(decide (0<w)&&decide (c=0))
 else(decide (k=17)&&decide (w=1))
def V9n(w:Word):Bool:=(((decide (w.kind_=0)&&decide (w.text_=[]))&&decide (w.quoted_=[]))&&decide (w.words_.length+w.cmd_.length=0))
def Y0b(t:Str):Bool:=decide (t.getLast?=some 10)
def Y0i(a:Int)(w:Word):Bool:=
 ((((decide (a=0)&&decide (w.kind_=1))&&decide (w.quoted_=List.replicate w.text_.length 48))&&decide (w.words_.length+w.cmd_.length=0))&&(decide (w.text_=[])||Y0b w.text_))
def X0y(w:Word):Bool:=(decide (w.kind_=1)&&keyB w.text_)&&!Q2u w.quoted_
def K7d:List Word->Bool
 | []=>false
 | w::_=>bif decide (w.kind_=4)then(match w.words_ with|[]=>false|u::_=>X0y u)else X0y w
mutual
def rW:Word->Bool
 | ⟨k,t,q,a,cs⟩=>
   bif decide (k=1)then V9h t q&&decide (a.length+cs.length=0)
   else bif (decide (k=2)||decide (k=3))then(Q3q t&&decide (q=[]))&&decide (a.length+cs.length=0)
   else bif decide (k=7)then(((Q3q t&&decide (q=[]))&&decide (0<a.length))&&decide (cs.length=0))&&rWs a
   else bif decide (k=5)then((decide (t=[])&&decide (q=[]))&&decide (cs.length=0))&&rWs a
   else bif decide (k=6)then((decide (t=[])&&decide (q=[]))&&decide (a.length=0))&&rUp cs 4
   else bif decide (k=4)then(a.all λx=>!decide (x.kind_=4))&&((((decide (t=[])&&decide (q=[]))&&decide (1<a.length))&&decide (cs.length=0))&&rWs a)
   else false
def rWs:List Word->Bool
 | []=>true
 | w::r=>rW w&&rWs r
def rC:Cmd->Bool
 | ⟨k,_,nm,a,rs,ks⟩=>((K5z k nm a.length rs.length ks.length&&rWs a)&&rRs rs) &&
   (bif decide (k=1)then(decide (a.length=0)||!K7d a)
   else bif (decide (k=8)||decide (k=11))then rIf ks
   else bif (decide (k=12)||decide (k=15))then rUp ks 4
   else bif (decide (k=5)||decide (k=6))then rAnd ks
   else bif decide (k=14)then rUp ks 3
   else bif decide (k=17)then X9g ks
   else rUp ks 1)
def rUp:List Cmd->Int->Bool
 | [],_=>true
 | c::r,m=>(lvl m c.kind_&&rC c)&&rUp r m
def rIf:List Cmd->Bool
 | []=>false
 | c::r=>((decide (c.kind_=12)&&decide (c.redirs_.length=0))&&rC c)&&rUp r 1
def rAnd:List Cmd->Bool
 | []=>true
 | c::r=>(lvl 3 c.kind_&&rC c)&&rUp r 2
def V9m:Cmd->Bool
 | ⟨k,_,nm,a,rs,ks⟩=>((((decide (k=18)&&decide (nm=[]))&&decide (rs.length=0))&&!decide (a.length=0))&&rWs a)&&rUp ks 4
def X9g:List Cmd->Bool
 | []=>true
 | c::r=>V9m c&&X9g r
def rR:Redir->Bool
 | ⟨k,a,d,w,e⟩=>
   bif (((((decide (a<0)||decide (64<=a))||decide (d<0))||decide (64<=d))||(!decide (k=5)&&!decide (d=0)))||(!decide (k=4)&&e))then false
   else bif (decide (k=1)||(decide (k=2)||decide (k=3)))then rW w
   else bif (decide (k=5)||decide (k=6))then V9n w
   else bif decide (k=4)then Y0i a w
   else false
def rRs:List Redir->Bool
 | []=>true
 | r::s=>rR r&&rRs s
end
theorem X2o(N:Nat)(a:N<=1000000):∀n j:Nat,j<=N->N-j<n->iter (Z2x (N:Int)) n (List.replicate j (48:UInt8),(j:Int))=some (List.replicate N 48)
 | 0,j,_,h=>by omega
 | n+1,j,d,f=>by
   show Z2x (N:Int) (iter (Z2x (N:Int)) n) (List.replicate j (48:UInt8),(j:Int))=_
   rw[Z2x]
   by_cases g:j<N
   ·rw[G0e (by omega),Q0b,catO,if_pos (by simp;omega),G0a,Q0f (by omega) (by omega)]
    have e:List.replicate j (48:UInt8)++[48]=List.replicate (j+1) 48:=List.replicate_succ'.symm
    rw[e]
    exact X2o N a n (j+1) (by omega) (by omega)
   rw[G0d (by omega),Q0a,show j=N by omega]
theorem K5g(N:Nat)(a:N<=1000000):F186 (N:Int)=some (List.replicate N 48):=by
 rw[F186]
 exact X2o N a BIG 0 (G2l _) (by unfold BIG;omega)
theorem len0(t:Str):decide ((t.length:Int)=0)=decide (t=[]):=by
 cases t with
 | nil=>rfl
 | cons a t=>rw[G0d (by simp;omega),G0d (by simp)]
theorem two{α:Type}{l:List α}(h:l.length=2):∃a b,l=[a,b]:=by
 rcases l with _|⟨a,_|⟨b,_|⟨c,r⟩⟩⟩<;>simp at h
 exact⟨a,b,rfl⟩
end Go.Abs.U48
namespace Go.Abs.U48
open Go Go.Proofs
def numS(n:Nat):Str:=if n<10 then[UInt8.ofNat (48+n)]else[UInt8.ofNat (48+n / 10),UInt8.ofNat (48+n % 10)]
def brP(rest:Str):Option (Str×Str×Bool×Int):=
 (F276 rest [91]).bind λd=>(F275 d [93]).bind λe=>(Z4k e [61]).bind λ(a,f,g)=>(F277 a).bind λk=>some (a,f,g,k)
theorem br1:((List.range 64).all λn=>brP (91::(numS n++[93]))==some (numS n,[],false,(n:Int)))=true:=by kernel_rfl
theorem br2:((List.range 64).all λn=>brP (91::(numS n++[61,93]))==some (numS n,[],true,(n:Int)))=true:=by kernel_rfl
set_option maxRecDepth 100000 in
theorem br3:((List.range 64).all λn=>(List.range 64).all λm=>brP (91::(numS n++61::(numS m++[93])))==some (numS n,numS m,true,(n:Int)))=true:=by kernel_rfl
theorem V6j:((List.range 64).all λn=>F277 (numS n)==some (n:Int))=true:=by kernel_rfl
theorem Q7b(pre:Str)(c:UInt8)(r:Str):sidx (pre++c::r) (pre.length:Int)=some (c.toNat:Int):=by
 rw[sidx,if_pos (by omega),G2o,G0m (G0o _),G6z]
 rfl
theorem digW:∀k,k<10->((UInt8.ofNat (48+k)).toNat:Int)=48+k/\IntKind.wrap .i64 (IntKind.wrap .u8 (((UInt8.ofNat (48+k)).toNat:Int)-48))=k:=by decide
theorem X5w{s:Str}(pre r:Str)(k:Nat)(hs:s=pre++UInt8.ofNat (48+k)::r)(hk:k<10)(g:pre.length+r.length<=2000000)(n:Int)(l:0<=n/\n<=100)(a:Int×Int->Option (Int×Int)):
 Q5j s a (pre.length,n)=a (((pre++[UInt8.ofNat (48+k)]).length:Nat),n * 10+k):=by
 subst hs
 obtain⟨d,e⟩:=digW k hk
 have f:(pre.length:Int)<((pre++UInt8.ofNat (48+k)::r).length:Int):=by simp only[G0i,G0h];omega
 rw[Q5j]
 show((Q0e (decide ((pre.length:Int)<_)) (sidx _ (pre.length:Int))).bind _)=_
 rw[G0e f,Q0g,Q7b,G0a,G0a,e,d]
 rw[G0e (show(48:Int)<=48+k by omega),G0e (show(48:Int)+k<=57 by omega),G2x,G2x,Q0b]
 rw[Q0f (n:=n * 10) (by omega) (by omega),Q0f (n:=(pre.length:Int)+1) (by omega) (by omega),Q0f (by omega) (by omega)]
 congr 2
 simp only[G0i,G0h,G0j]
 omega
theorem K1d{s:Str}(pre r:Str)(c:UInt8)(hs:s=pre++c::r)(e:¬ (48<=c.toNat/\c.toNat<=57))(n:Int)(a:Int×Int->Option (Int×Int)):
 Q5j s a (pre.length,n)=some (n,(pre.length:Int)):=by
 subst hs
 have d:(pre.length:Int)<((pre++c::r).length:Int):=by simp only[G0i,G0h];omega
 rw[Q5j]
 show((Q0e (decide ((pre.length:Int)<_)) (sidx _ (pre.length:Int))).bind _)=_
 rw[G0e d,Q0g,Q7b,G0a,G1i]
 by_cases f:48<=c.toNat
 ·rw[G0d (p:=((c.toNat:Int)<=57)) (by omega),G2d,Q0a]
 rw[G0d (p:=((48:Int)<=(c.toNat:Int))) (by omega),G1o,Q0a]
theorem Z4y{s:Str}(pre r:Str)(c:UInt8)(n:Nat)(hs:s=pre++(numS n++c::r))(a:¬ (48<=c.toNat/\c.toNat<=57))(d:n<100)(e:pre.length+r.length<=1000000):
 F204 s pre.length=some ((n:Int),((pre++numS n).length:Int)):=by
 show Q5j s (iter (Q5j s) (1180591620717411303421+1+1)) ((pre.length:Int),0)=_
 by_cases h:n<10
 ·rw[numS,if_pos h]at hs |-
  rw[X5w pre (c::r) n (by rw[hs];rfl) h (by simp only[G0h];omega) 0 (by omega)]
  show Q5j s (iter _ (1180591620717411303421+1)) (((pre++[UInt8.ofNat (48+n)]).length:Nat),0 * 10+(n:Int))=_
  rw[K1d _ r c (by rw[hs];simp) a]
  simp
 rw[numS,if_neg h]at hs |-
 rw[X5w pre (UInt8.ofNat (48+n % 10)::c::r) (n / 10) (by rw[hs];rfl) (by omega) (by simp only[G0h];omega) 0 (by omega)]
 show Q5j s (iter _ (1180591620717411303421+1)) (((pre++[UInt8.ofNat (48+n / 10)]).length:Nat),0 * 10+((n / 10:Nat):Int))=_
 rw[X5w _ (c::r) (n % 10) (by rw[hs];simp) (by omega) (by simp only[G0h,G0i,G0j];omega) _ (by omega)]
 show Q5j s (iter _ 1180591620717411303421) (((pre++[UInt8.ofNat (48+n / 10)]++[UInt8.ofNat (48+n % 10)]).length:Nat),_)=_
 rw[K1d _ r c (by rw[hs];simp) a]
 congr 2
 ·omega
 simp
def RD(s:Str):Prop:=∃hd tl,(hd=[60]\/hd=[62]\/hd=[62,62])/\s=hd++tl/\(tl=[]\/(∃n,n<64/\tl=91::(numS n++[93]))\/(∃n,n<64/\tl=91::(numS n++[61,93]))\/∃n m,n<64/\m<64/\tl=91::(numS n++61::(numS m++[93])))
theorem J0f:∀n,n<64->numS n≠[]/\(numS n).length<=2/\((numS n).head?=some 93)=False:=by decide
theorem K1u(n:Nat)(d:n<=1000000):Q2r [48] (n:Int)=some (List.replicate n 48):=by
 have:∀n,Lib.repeatL [48] n=List.replicate n (48:UInt8):=by
  intro n
  induction n with
  | zero=>rfl
  | succ n a=>rw[Lib.repeatL,a];rfl
 rw[Q2r,if_pos ⟨by omega,by omega,by simp only[G0h,G0j,G2o];omega⟩,G2o,this]
section
variable {S:Str}{T:List Token}{D:List Str}{b ic iw:Int}{wc:PCm}{vc:RCm}{ww:PWd}{vw:RWd}{i j n:Int}
theorem X1p(f:HW S T D b iw ww vw)(hb:(T.length:Int)<=b)(g:0<=i)(m:iw<=i+1)(o:i<T.length)(p:T.length<=1000000)(k e:Int):
 Ag (Kr i) T.length (i+1) b (Z0p ww S T D i k e) (Z2y vw S T D i 0 0 k e):=by
 rw[Z0p,Z2y,wr1 g (by omega)]
 refine Ag.bind (f.ag (i+1) (by omega) (by omega)) (λa j l g1 d=>?_) (λn a j g1 d=>?_)
 ·exact Ag.ok (j:=j) (show(nR _:Int)+5<=_ by have:(nW a:Int)+5<=8 * (j-(i+1)):=l;rw[Z4i];show(nW a:Int)+5<=_;omega) (by omega) d
 exact Bad.mk (j:=j) g1 d
theorem K1w(A:HW S T D b iw ww vw)(hb:(T.length:Int)<=b)(l:0<=i)(C:iw<=i+1)(E:i<T.length)(F:T.length<=1000000)(r:Token)(k o:Int)(hd tl:Str)(X:hd.length<=2)(hs:r.text_=hd++tl)
 (K:tl=[]\/(∃n,n<64/\tl=91::(numS n++[93]))\/(∃n,n<64/\tl=91::(numS n++[61,93]))\/∃n m,n<64/\m<64/\tl=91::(numS n++61::(numS m++[93]))):
 Ag (Kr i) T.length (i+1) b (Q7r i ww S T D (tl,k,o)) (Z2z r i 0 0 vw S T D o (hd.length,k)):=by
 have brk:∀ (rest a b:Str) (ok:Bool) (v:Int),rest≠[]->brP rest=some (a,b,ok,v)->Q7r i ww S T D (rest,k,o)=(bif (ok&&decide (b=[]))then some (.inr (Redir.mk 6 v 0 (Word.mk 0 [] [] [] []) false,IntKind.wrap .i64 (i+1)))
  else(bif ok then(F277 b).bind λL=>some (.inr (Redir.mk 5 v L (Word.mk 0 [] [] [] []) false,IntKind.wrap .i64 (i+1)))else Z0p ww S T D i k v)):=by
  intro rest a b ok v hne d
  rw[Q7r]
  dsimp only
  rw[G0d hne]
  simp only[G0q,Q0b]
  simp only[brP]at d
  obtain⟨Y,M,d⟩:=obs d
  obtain⟨aa,O,d⟩:=obs d
  obtain⟨⟨a',b',ad⟩,Q,d⟩:=obs d
  obtain⟨v',U,d⟩:=obs d
  cases d
  rw[M,G0a,O,G0a,Q,G0a]
  dsimp only
  rw[U,G0a]
 rw[Z2z]
 dsimp only
 rcases K with rfl|⟨n,f,rfl⟩|⟨n,f,rfl⟩|⟨n,m,f,q,rfl⟩
 ·rw[hs,G1s,G0d (by omega),Q0a]
  exact X1p A hb l C E F k o
 ·obtain⟨g1,H,g3⟩:=J0f n f
  have e:=G0t.1 br1 n (G1k.2 f)
  rw[brk _ _ _ _ _ (by simp) (eq_of_beq e),hs,G0e (p:=(hd.length:Int)<_) (by simp only[G0i,G0h];omega),Q0b]
  have g:((hd.length:Int)+1)=(((hd++[91]).length:Nat):Int):=by simp only[G0i,G0h,G0j];omega
  rw[Q0f (n:=(hd.length:Int)+1) (by omega) (by omega),g,Z4y (hd++[91]) [] 93 n (by simp) (by decide) (by omega) (by simp only[G0i,G0h,G0j];omega),G0a]
  dsimp only
  rw[show hd++91::(numS n++[93])=(hd++[91]++numS n)++93::[]by simp,Q7b,G0a]
  exact X1p A hb l C E F k n
 ·obtain⟨g1,H,g3⟩:=J0f n f
  have e:=G0t.1 br2 n (G1k.2 f)
  rw[brk _ _ _ _ _ (by simp) (eq_of_beq e),hs,G0e (p:=(hd.length:Int)<_) (by simp only[G0i,G0h];omega),Q0b]
  have g:((hd.length:Int)+1)=(((hd++[91]).length:Nat):Int):=by simp only[G0i,G0h,G0j];omega
  rw[Q0f (n:=(hd.length:Int)+1) (by omega) (by omega),g,Z4y (hd++[91]) [93] 61 n (by simp) (by decide) (by omega) (by simp only[G0i,G0h,G0j];omega),G0a]
  dsimp only
  rw[show hd++91::(numS n++[61,93])=(hd++[91]++numS n)++61::[93]by simp,Q7b,G0a]
  have s:((hd++[91]++numS n).length:Int)+1=(((hd++[91]++numS n++[61]).length:Nat):Int):=by simp only[G0i,G0h,G0j];omega
  have V:(hd++[91]++numS n).length<=10:=by simp only[G0i,G0h,G0j];omega
  have t:IntKind.wrap .i64 ((((hd++[91]++numS n).length:Nat):Int)+1)=(((hd++[91]++numS n).length:Nat):Int)+1:=Q0f (by omega) (by omega)
  rw[t,s,show(hd++[91]++numS n)++61::[93]=(hd++[91]++numS n++[61])++93::[]by simp,Q7b,G0a]
  have u:IntKind.wrap .i64 (i+1)=i+1:=wr1 l (by omega)
  rw[u]
  exact Ag.ok (show(nR _:Int)+5<=_ by rw[Z4i];simp only[Q6s (Word.mk _ _ _ _ _),nWs,nCs];omega) (by omega) (by omega)
 obtain⟨g1,H,g3⟩:=J0f n f
 obtain⟨k1,k2,I⟩:=J0f m q
 have e:=G0t.1 (G0t.1 br3 n (G1k.2 f)) m (G1k.2 q)
 have J:=eq_of_beq (G0t.1 V6j m (G1k.2 q))
 rw[brk _ _ _ _ _ (by simp) (eq_of_beq e),hs,G0e (p:=(hd.length:Int)<_) (by simp only[G0i,G0h];omega),Q0b]
 have g:((hd.length:Int)+1)=(((hd++[91]).length:Nat):Int):=by simp only[G0i,G0h,G0j];omega
 rw[Q0f (n:=(hd.length:Int)+1) (by omega) (by omega),g,Z4y (hd++[91]) (numS m++[93]) 61 n (by simp) (by decide) (by omega) (by simp only[G0i,G0h,G0j];omega),G0a]
 dsimp only
 rw[show hd++91::(numS n++61::(numS m++[93]))=(hd++[91]++numS n)++61::(numS m++[93])by simp,Q7b,G0a]
 have s:((hd++[91]++numS n).length:Int)+1=(((hd++[91]++numS n++[61]).length:Nat):Int):=by simp only[G0i,G0h,G0j];omega
 have V:(hd++[91]++numS n).length<=10:=by simp only[G0i,G0h,G0j];omega
 have t:IntKind.wrap .i64 ((((hd++[91]++numS n).length:Nat):Int)+1)=(((hd++[91]++numS n).length:Nat):Int)+1:=Q0f (by omega) (by omega)
 rw[t,s]
 rw[show(hd++[91]++numS n)++61::(numS m++[93])=(hd++[91]++numS n++[61])++(numS m++93::[])by simp]
 rw[Z4y (hd++[91]++numS n++[61]) [] 93 m rfl (by decide) (by omega) (by simp only[G0i,G0h,G0j];omega),G0a]
 cases z:numS m with
 | nil=>exact absurd z k1
 | cons x y=>
   rw[z]at I
   have W:¬ (x.toNat:Int)=93:=by
    intro e
    have:x=93:=by
     apply UInt8.toNat_inj.1
     have:x.toNat=93:=by omega
     rw[this]
     rfl
    subst this
    exact I.mp rfl
   have u:IntKind.wrap .i64 (i+1)=i+1:=wr1 l (by omega)
   rw[z]at J
   rw[G3a,Q7b,G0a,G0d W,J,G0a,u]
   exact Ag.ok (show(nR _:Int)+5<=_ by rw[Z4i];simp only[Q6s (Word.mk _ _ _ _ _),nWs,nCs];omega) (by omega) (by omega)
end
end Go.Abs.U48
namespace Go.Abs.U48
open Go Go.Proofs
structure OkR(T:List Token)(D:List Str):Prop where
 ok:OkT T
 rd:∀t∈T,t.kind_=2->(c0 t.text_=60\/c0 t.text_=62)->RD t.text_
 dl:D.length=T.length
 dt:∀d∈D,d.length<=1000000
section
variable {S:Str}{T:List Token}{D:List Str}{b ic iw:Int}{wc:PCm}{vc:RCm}{ww:PWd}{vw:RWd}{i j n:Int}
theorem K4c(h:bR (tp T i)=true)(d:0<=i):i<T.length:=by
 rcases G6e i T.length with a|a
 ·exact a
 rw[Z0y a]at h
 exact absurd h (by decide)
theorem X2i(q:Str):decide (0<=Lib.indexByte q 49)=Q2u q:=by
 have h:=X3a q 49
 rw[Q2u]
 by_cases a:Lib.indexByte q 49<0
 ·rw[G0e a]at h
  rw[G0d (by omega)]
  cases hq:q.contains 49 with
  | false=>rfl
  | true=>rw[hq]at h;cases h
 rw[G0d a]at h
 rw[G0e (by omega)]
 cases hq:q.contains 49 with
 | true=>rfl
 | false=>rw[hq]at h;cases h
theorem K6a(o:OkR T D)(I:HW S T D b iw ww vw)(hb:(T.length:Int)<=b)(d:0<=i)(J:iw<=i+1)(f:bR (tp T i)=true):
 Ag (Kr i) T.length (i+1) b (F254 ww S T D i) (F179 vw S T D i 0 0):=by
 have E:=K4c f d
 have hT:=o.ok.len
 have M:=o.ok.tl i
 rw[F254,F179,Q1t d (by omega),G0a,Z6z 0 0 d E,G0a]
 by_cases t:(tp T i).kind_=4
 ·have q:i.toNat<D.length:=by rw[o.dl];omega
  have hd:lidx D i=some (D[i.toNat]):=by
   rw[lidx,if_pos d,G0c q]
  have F:=o.dt _ (G2u q)
  rw[G0e t,Q0b,Q0b,hd,G0a,G0a,K1u _ F,G0a,Z0a,G0a,K5g _ F,G0a,Z3a _ (by omega),G0a,X2i,wr1 d (by omega)]
  exact Ag.ok (show(nR _:Int)+5<=_ by rw[Z4i];simp only[Q6s (Word.mk _ _ _ _ _),nWs,nCs];omega) (by omega) (by omega)
 rw[bR,G0d t,G1p,G0k,G0s,G2r,G0s,G0s]at f
 have l:tp T i∈T:=by
  rcases X9a (T:=T) (i:=i)with l|l
  ·exact l
  rw[l]at f
  exact absurd f.1 (by decide)
 obtain⟨hd,tl,u,hs,H⟩:=o.rd _ l f.1 f.2
 rw[G0d t,Q0a,Q0a]
 have x:∀c r,tl=c::r->c=91:=by
  intro c r e
  rcases H with rfl|⟨n,q,rfl⟩|⟨n,q,rfl⟩|⟨n,m,q,l,rfl⟩
  ·cases e
  ·exact(G6g e).1.symm
  ·exact(G6g e).1.symm
  exact(G6g e).1.symm
 have sl:∀ (c:UInt8) (r:Str),Q0m (c::r) 1 ((c::r).length:Int)=some r:=by
  intro c r
  rw[Q0m,if_pos ⟨by omega,by simp only[G0h];omega,G5e _⟩]
  simp only[G0h,show(1:Int).toNat=1 from rfl,G3z,G3e]
  rw[G3v (by omega)]
 have pre:∀s:Str,F42 s [62]=some (decide (s.head?=some 62)):=by
  intro s
  rw[F42,F74]
  cases s with
  | nil=>rfl
  | cons c r=>
    rw[G0e (by simp only[G0h,G0j];omega),Q0g,Q0m,if_pos ⟨by decide,by decide,by simp only[G0h,G0j];omega⟩,G0a,G0a]
    show some (true&&decide ([c]=[62]))=some (decide (some c=some 62))
    by_cases y:c=62
    ·subst y
     rfl
    rw[G0d (p:=([c]:Str)=[62]) (λe=>y (G6g e).1),G0d (p:=some c=some 62) (λe=>y (G3g e))]
    rfl
 have z:=λk K A (u:A.length<=2) (e:(tp T i).text_=A++tl)=>K1w I hb d J E hT (tp T i) k K A tl u e H
 rcases u with rfl|rfl|rfl
 ·have:=z 1 0 [60] (by decide) hs
  rw[hs,G3a,G1y,sl,G0a]
  rw[show sidx (60::tl) 0=some 60 from rfl,G0a,G0a]
  show Ag _ _ _ _ (Q7r i ww S T D (tl,1,0)) _
  rw[show decide ((60:Int)=62)=false from rfl,Q0a,Z0s]
  have C:∀g:Bool,(g=true->tl≠[])->(Q0e g (sidx (tp T i).text_ 1))=Q0e g (some 91):=by
   intro g a
   cases g with
   | false=>rfl
   | true=>
     rw[Q0g,Q0g,hs]
     cases tl with
     | nil=>exact absurd rfl (a rfl)
     | cons c r=>rw[x c r rfl];rfl
  rw[C _ (λa e=>by
   rw[G0s,hs,e]at a
   exact absurd a (by decide))]
  cases a:decide (1<((tp T i).text_.length:Int))with
  | false=>exact this
  | true=>exact this
 ·have:=z 2 1 [62] (by decide) hs
  rw[hs,G3a,G1y,sl,G0a]
  rw[show sidx (62::tl) 0=some 62 from rfl,G0a,G0a]
  have L:decide (tl.head?=some 62)=false:=by
   rw[G0d]
   intro e
   cases tl with
   | nil=>cases e
   | cons c r=>rw[x c r rfl]at e;simp at e
  rw[show decide ((62:Int)=60)=false from rfl,Q0a,pre,G0a,L,Q0a,show decide ((62:Int)=62)=true from rfl,Q0b,Z0s]
  have C:∀g:Bool,(g=true->tl≠[])->(Q0e g (sidx (tp T i).text_ 1))=Q0e g (some 91):=by
   intro g a
   cases g with
   | false=>rfl
   | true=>
     rw[Q0g,Q0g,hs]
     cases tl with
     | nil=>exact absurd rfl (a rfl)
     | cons c r=>rw[x c r rfl];rfl
  rw[C _ (λa e=>by
   rw[G0s,hs,e]at a
   exact absurd a (by decide))]
  cases a:decide (1<((tp T i).text_.length:Int))with
  | false=>exact this
  | true=>exact this
 have:=z 3 1 [62,62] (by decide) hs
 rw[hs,G3a,G3a,G1y,sl,G0a]
 rw[show sidx (62::62::tl) 0=some 62 from rfl,G0a,G0a]
 rw[show decide ((62:Int)=60)=false from rfl,Q0a,pre,G0a,show decide ((62::tl).head?=some 62)=true from rfl,Q0b,sl,G0a,show decide ((62:Int)=62)=true from rfl,Q0b,Z0s]
 rw[hs,G3a,G3a,G1y]
 rw[G0e (show(1:Int)<((62::62::tl).length:Int)by simp only[G0h];omega),Q0g,show sidx (62::62::tl) 1=some 62 from rfl,G0a,show decide ((62:Int)=62)=true from rfl]
 exact this
theorem Z9k(vw:RWd)(k at_:Int)(nm:Str)(ks:List Cmd)(m:Nat)(a:0<m)(j n:Int)(l:List Redir):iter (Q5m S T D vw k at_ nm ks) m (j,47,n,l)=some (Cmd.mk k at_ nm [] l ks,j,47,n):=by
 cases m with
 | zero=>omega
 | succ m=>
   show Q5m S T D vw k at_ nm ks (iter (Q5m S T D vw k at_ nm ks) m) (j,47,n,l)=_
   rw[Q5m]
   dsimp only
   rw[e47,Q0a]
theorem Z8r(f:OkR T D)(q:HW S T D b iw ww vw)(u:0<=iw)(hb:(T.length:Int)<=b)(d:Token)(ks:List Cmd)(i0:Int):
 ∀ (k m e:Nat) (j:Int) (l:List Redir),iw<=j->i0<j->j<=T.length->(T.length:Int)<=j+k->k<m->k+1<e->(l.length:Int)<=j->(nCs ks:Int)+nRs l+5<=8 * (j-i0)->
 Ag (Kc i0) T.length (i0+1) (b+6) (iter (Z2w S T D ww d ks) m (j,l)) (iter (Q5m S T D vw 12 d.at_ [] ks) e (j,0,0,l))
 | k,0,_,_,_,_,_,_,_,o,_,_,_=>absurd o (G1t _)
 | k,_,0,_,_,_,_,_,_,_,o,_,_=>absurd o (G1t _)
 | k,m+1,e+1,j,l,z,A,x,C,E,F,H,I=>by
   have hT:=f.ok.len
   have g:0<=j:=by omega
   show Ag _ _ _ _ (Z2w S T D ww d ks (iter (Z2w S T D ww d ks) m) (j,l)) (Q5m S T D vw 12 d.at_ [] ks (iter (Q5m S T D vw 12 d.at_ [] ks) e) (j,0,0,l))
   rw[Z2w,Q5m]
   dsimp only
   rw[Q1t g (by omega),G0a,J1m (f.ok.tl j).2.2,G0a,e00,Q0b,J1k _ _ f.ok g,G0a]
   cases s:bR (tp T j)with
   | false=>exact Ag.ok ⟨show(12:Int)≠14 by decide,by rw[Q3r];simp only[nWs];omega⟩ (by omega) x
   | true=>
     have J:=K4c s g
     rw[Q0b,Q0b]
     refine Ag.bind (K6a f q hb g (by omega) s) (λa p y g1 t=>?_) (λn a p g1 t=>?_)
     ·dsimp only
      rw[Q0n (by simp only[G0h,G0j];omega),G0a,G0a]
      cases k with
      | zero=>omega
      | succ k=>exact Z8r f q u hb d ks i0 k m e p _ (by omega) (by omega) t (by omega) (by omega) (by omega) (by simp;omega) (by have:(nR a:Int)+5<=8 * (p-j):=y;rw[J4r];omega)
     dsimp only
     rw[Q0n (by simp only[G0h,G0j];omega),G0a,Z9k vw _ _ _ _ e (by omega)]
     exact Bad.mk g1 (by omega)
theorem X8h(d:OkR T D)(h:HC S T D b ic wc vc)(o:HW S T D b iw ww vw)(p:0<=ic)(q:0<=iw)(hb:(T.length:Int)<=b)(C:b<=2000000000000000000)(g:0<=i)(E:ic<=i+1)(F:iw<=i+1)(H:i<T.length):
 Ag (Kc i) T.length (i+1) (b+6) (F225 wc ww S T D i) ((F177 vc [123] [125] S T D i 0 0).bind λ(s,t,u,x,y,z,A)=>
  iter (Q5m S T D vw s t u x) BIG (y,z,A,([]:List Redir))):=by
 have hT:=d.ok.len
 rw[F225,Q1t g (by omega),G0a]
 rcases Z6m d.ok h p hb (by omega) (i:=i) (by omega) g (by omega)with⟨n,e,k,a,nm,l,j,f,g1,m⟩|⟨l,j,e,g1,g3,m,-,f⟩
 ·rw[e,f,G0a]
  dsimp only
  rw[Z9k vw _ _ _ _ BIG (by unfold BIG;omega)]
  exact Ag.bad (Bad.mk g1 (by omega)) rfl
 rw[e,f,G0a]
 exact Z8r d o q hb (tp T i) l i T.length BIG BIG j [] (by omega) (by omega) m (by omega) (by unfold BIG;omega) (by unfold BIG;omega) (by simp;omega) (by simp only[nRs];omega)
def kyT(t:Token):Bool:=(decide (t.kind_=1)&&keyB t.text_)&&!Q2u t.quoted_
theorem Y0c(t:Token):((!decide (kwT t=[])&&!decide (kwT t=[110,111,116]))&&!decide (kwT t=[105,110]))=kyT t:=by
 rw[kwT,kyT,plT]
 cases decide (t.kind_=1)with
 | false=>rfl
 | true=>
   cases Q2u t.quoted_ with
   | true=>
     cases keyB t.text_<;>rfl
   | false=>
     simp only[G0q,G2x,G1i]
     cases hk:kwsB t.text_ with
     | false=>
       rw[Q0a]
       cases a:keyB t.text_ with
       | false=>rfl
       | true=>
         rw[keyB]at a
         rw[kwsB]at hk
         simp only[G2r,G0s]at a
         simp only[G1x,G5v]at hk
         rcases a with(((((a|a)|a)|a)|a)|a)|a<;>simp[a]at hk
     | true=>
       rw[Q0b]
       rw[kwsB]at hk
       simp only[G2r,G0s]at hk
       rcases hk with hk|hk|hk|hk|hk|hk|hk|hk|hk<;>rw[hk]<;>rfl
end
end Go.Abs.U48
namespace Go.Abs.U48
open Go Go.Proofs
section
variable {S:Str}{T:List Token}{D:List Str}{b ic iw:Int}{wc:PCm}{vc:RCm}{ww:PWd}{vw:RWd}{i j n:Int}
def drp(x:Cmd×Int×Int×Int×List Redir):Option (Cmd×Int×Int×Int):=some (x.1,x.2.1,x.2.2.1,x.2.2.2.1)
theorem J1j(vw:RWd)(at_:Int)(m:Nat)(d:0<m)(j n:Int)(rs:List Redir)(a:List Word):
 (iter (Q1n S T D vw at_ []) m (j,47,n,rs,a)).bind drp=some (Cmd.mk 1 at_ [] a rs [],j,47,n):=by
 cases m with
 | zero=>omega
 | succ m=>
   show(Q1n S T D vw at_ [] (iter (Q1n S T D vw at_ []) m) (j,47,n,rs,a)).bind drp=_
   rw[Q1n]
   dsimp only
   rw[e47,Q0a]
   rfl
theorem Y5n{t:Token}(h:bR t=true):bW t=false:=by
 rw[bR,G2r,G0s,G0k,G0s]at h
 rcases h with h|⟨h,a⟩
 ·simp only[bW,isT,h]
  rfl
 have hs:∀s:Str,(decide (c0 s=60)||decide (c0 s=62))=false->isT t s=false:=by
  intro s hs
  rw[isT]
  cases hd:decide (t.text_=s)with
  | false=>rw[G2d]
  | true=>
    rw[G3y hd,hs]at a
    cases a
 rw[bW,hs [36] (by decide),hs [36,35] (by decide),hs [40] (by decide),hs [96] (by decide),h]
 rfl
theorem K7a{t:Token}(h:kyT t=true):bW t=true/\bR t=false:=by
 rw[kyT,G0k,G0k,G0s]at h
 have a:=h.1.1
 refine⟨by rw[bW,a];rfl,by rw[bR,a];rfl⟩
theorem Z0i(q:OkR T D)(z:HW S T D b iw ww vw)(al:0<=iw)(hb:(T.length:Int)<=b)(f:Token)(i0:Int):
 ∀ (k m g:Nat) (j:Int) (d:List Word) (rs:List Redir),iw<=j->i0<=j->j<=T.length->(T.length:Int)<=j+k->k<m->k+1<g->(d.length:Int)<=j->(rs.length:Int)<=j->
 (d=[]->rs=[]->kyT (tp T j)=false/\(bW (tp T j)||bR (tp T j))=true)->(d≠[]\/rs≠[]->i0<j/\(nWs d:Int)+nRs rs+5<=8 * (j-i0))->
 Ag (Kc i0) T.length (i0+1) (b+6) (iter (Q5i S T D ww f) m (j,d,rs)) ((iter (Q1n S T D vw f.at_ []) g (j,0,0,rs,d)).bind drp)
 | k,0,_,_,_,_,_,_,_,_,E,_,_,_,_,_=>absurd E (G1t _)
 | k,_,0,_,_,_,_,_,_,_,_,E,_,_,_,_=>absurd E (G1t _)
 | k,m+1,g+1,j,d,rs,h1,hi,h2,h3,h4,h5,aK,aL,av,F=>by
   have hT:=q.ok.len
   have o:0<=j:=by omega
   have aM:(nWs d:Int)+nRs rs<=8 * (j-i0):=by
    by_cases x:d=[]
    ·by_cases u:rs=[]
     ·rw[x,u,nWs,nRs]
      omega
     have:=(F (.inr u)).2
     omega
    have:=(F (.inl x)).2
    omega
   have ao:(decide ((d.length:Int)=0))=decide (d=[]):=by
    cases d with
    | nil=>rfl
    | cons a l=>rw[G0d (by simp only[G0h];omega),G0d (by simp)]
   have aw:(decide (0<(rs.length:Int)))=!decide (rs=[]):=by
    cases rs with
    | nil=>rfl
    | cons a l=>rw[G0e (by simp only[G0h];omega),G0d (by simp)];rfl
   have ax:(decide ((rs.length:Int)=0))=decide (rs=[]):=by
    cases rs with
    | nil=>rfl
    | cons a l=>rw[G0d (by simp only[G0h];omega),G0d (by simp)]
   have sp:iter (Q5i S T D ww f) (m+1) (j,d,rs)=(bif (decide (d=[])&&!decide (rs=[]))&&kyT (tp T j)then some (.inl (atf S T j))
    else bif bW (tp T j)then Q0i (ww S T D j) λ(H,I)=>(appO 88 d [H]).bind λJ=>iter (Q5i S T D ww f) m (I,J,rs)
    else bif bR (tp T j)then Q0i (F254 ww S T D j) λ(K,L)=>(appO 120 rs [K]).bind λM=>iter (Q5i S T D ww f) m (L,d,M)
    else some (.inr (Cmd.mk 1 f.at_ [] d rs [],j))):=by
    show Q5i S T D ww f (iter (Q5i S T D ww f) m) (j,d,rs)=_
    rw[Q5i]
    dsimp only
    rw[Q1t o (by omega),G0a,Z6w (q.ok.tl _).1,Q8x o,Q5n,G0a,J1m (q.ok.tl j).2.2,G0a,ao,aw]
    cases hc:(decide (d=[])&&!decide (rs=[]))with
    | false=>rfl
    | true=>
      rw[Q0g,G0a,G1i,Y0c,G1i]
      rfl
   have sr:iter (Q1n S T D vw f.at_ []) (g+1) (j,0,0,rs,d)=(bif bR (tp T j)then(F179 vw S T D j 0 0).bind λ(O,Q,U,V)=>(appO 120 rs [O]).bind λW=>iter (Q1n S T D vw f.at_ []) g (Q,U,V,W,d)
    else bif decide (d=[])&&kyT (tp T j)then(F60 S T D (bif decide (rs=[])then j+1 else j) 0 0).bind λ(X,Y)=>iter (Q1n S T D vw f.at_ []) g ((bif decide (rs=[])then j+1 else j),X,Y,rs,d)
    else bif bW (tp T j)then(vw S T D j 0 0).bind λ(aa,ac,ad,ae)=>(appO 88 d [aa]).bind λaf=>iter (Q1n S T D vw f.at_ []) g (ac,ad,ae,rs,af)
    else bif decide (d=[])&&decide (rs=[])then(F60 S T D j 0 0).bind λ(ag,ah)=>iter (Q1n S T D vw f.at_ []) g (j,ag,ah,rs,d)
    else some (Cmd.mk 1 f.at_ [] d rs [],j,0,0,rs)):=by
    show Q1n S T D vw f.at_ [] (iter (Q1n S T D vw f.at_ []) g) (j,0,0,rs,d)=_
    obtain⟨t,et,k1,k2,k3,-⟩:=Q2l (S:=S) (T:=T) (D:=D) 0 0 o
    have hz:decide (IntKind.wrap .i64 ((d.length:Int)+(rs.length:Int))=0)=(decide (d=[])&&decide (rs=[])):=by
     rw[Q0f (by omega) (by omega)]
     cases d<;>cases rs<;>simp<;>omega
    rw[Q1n]
    dsimp only
    rw[e00,Q0b,J1k _ _ q.ok o,G0a,et,G0a,k1,k2,k3,ao,ax,hz,Z7k _ _ o,G0a,wr1 o (by omega)]
    have hq:=(q.ok.tl j).2.1
    cases bR (tp T j)with
    | true=>rfl
    | false=>
      rw[Q0a,Q0a]
      cases decide (d=[])with
      | false=>cases bW (tp T j)<;>rfl
      | true=>
        rw[Q0b,G1i,kyT]
        cases decide ((tp T j).kind_=1)with
        | false=>
          simp only[G1o,G1i,Q1s,G0a,Q0a]
          try rfl
        | true=>
          rw[G1i,Q0g,X6a,G0a,G1i]
          cases keyB (tp T j).text_ with
          | false=>
            simp only[G1o,G1i,Q1s,G0a,Q0a]
            try rfl
          | true=>
            rw[Q0g,Z3a _ (by omega),G0a]
            try rfl
   rw[sp,sr]
   have aq:(bW (tp T j)||bR (tp T j))=true->((decide (d=[])&&kyT (tp T j))=false)->
    Ag (Kc i0) T.length (i0+1) (b+6) (bif bW (tp T j)then Q0i (ww S T D j) λ(H,I)=>(appO 88 d [H]).bind λJ=>iter (Q5i S T D ww f) m (I,J,rs)
    else bif bR (tp T j)then Q0i (F254 ww S T D j) λ(K,L)=>(appO 120 rs [K]).bind λM=>iter (Q5i S T D ww f) m (L,d,M)
    else some (.inr (Cmd.mk 1 f.at_ [] d rs [],j)))
    ((bif bR (tp T j)then(F179 vw S T D j 0 0).bind λ(O,Q,U,V)=>(appO 120 rs [O]).bind λW=>iter (Q1n S T D vw f.at_ []) g (Q,U,V,W,d)
    else bif decide (d=[])&&kyT (tp T j)then(F60 S T D (bif decide (rs=[])then j+1 else j) 0 0).bind λ(X,Y)=>iter (Q1n S T D vw f.at_ []) g ((bif decide (rs=[])then j+1 else j),X,Y,rs,d)
    else bif bW (tp T j)then(vw S T D j 0 0).bind λ(aa,ac,ad,ae)=>(appO 88 d [aa]).bind λaf=>iter (Q1n S T D vw f.at_ []) g (ac,ad,ae,rs,af)
    else bif decide (d=[])&&decide (rs=[])then(F60 S T D j 0 0).bind λ(ag,ah)=>iter (Q1n S T D vw f.at_ []) g (j,ag,ah,rs,d)
    else some (Cmd.mk 1 f.at_ [] d rs [],j,0,0,rs)).bind drp):=by
    intro p hk
    cases A:bR (tp T j)with
    | true=>
      have aD:=K4c A o
      rw[Y5n A,Q0a,Q0b,Q0b,G5z]
      refine Ag.bind (K6a q z hb o (by omega) A) (λa s g0 g1 y=>?_) (λn a s g1 y=>?_)
      ·dsimp only
       rw[Q0n (by simp only[G0h,G0j];omega),G0a,G0a]
       cases k with
       | zero=>omega
       | succ k=>exact Z0i q z al hb f i0 k m g s d (rs++[a]) (by omega) (by omega) y (by omega) (by omega) (by omega) (by omega) (by simp;omega) (λ_ e=>absurd e (by simp)) (λ_=>⟨by omega,by have:(nR a:Int)+5<=8 * (s-j):=g0;rw[J4r];omega⟩)
      dsimp only
      rw[Q0n (by simp only[G0h,G0j];omega),G0a,J1j vw _ g (by omega)]
      exact Bad.mk g1 (by omega)
    | false=>
      rw[A,G2n]at p
      have aD:=K4b p o
      rw[p,hk,Q0b,Q0a,Q0a,Q0b,G5z]
      refine Ag.bind (z.ag j h1 h2) (λa s g0 g1 y=>?_) (λn a s g1 y=>?_)
      ·dsimp only
       rw[Q0n (by simp only[G0h,G0j];omega),G0a,G0a]
       cases k with
       | zero=>omega
       | succ k=>exact Z0i q z al hb f i0 k m g s (d++[a]) rs (by omega) (by omega) y (by omega) (by omega) (by omega) (by simp;omega) (by omega) (λe _=>absurd e (by simp)) (λ_=>⟨by omega,by have:(nW a:Int)+5<=8 * (s-j):=g0;rw[Z2j];omega⟩)
      dsimp only
      rw[Q0n (by simp only[G0h,G0j];omega),G0a,J1j vw _ g (by omega)]
      exact Bad.mk g1 (by omega)
   by_cases C:d=[]/\rs=[]
   ·obtain⟨hk,p⟩:=av C.1 C.2
    rw[hk,G2d,Q0a]
    have:=aq p (by rw[hk,G2d])
    rw[hk,G2d]at this
    rw[G2d]
    exact this
   obtain⟨hp,hN⟩:=F (by
    by_cases x:d=[]
    ·exact .inr λu=>C ⟨x,u⟩
    exact .inl x)
   have ak:(decide (d=[])&&decide (rs=[]))=false:=by
    cases ar:(decide (d=[])&&decide (rs=[]))with
    | false=>rfl
    | true=>
      rw[G0k,G0s,G0s]at ar
      exact absurd ar C
   cases hk:(decide (d=[])&&kyT (tp T j))with
   | true=>
     rw[G0k]at hk
     have u:decide (rs=[])=false:=by
      rw[hk.1,G1i]at ak
      exact ak
     obtain⟨k1,k2⟩:=K7a hk.2
     rw[hk.1,u,hk.2,k2]
     simp only[G0q,G3o,Q0b,Q0a]
     rw[Z1y _ o,G0a]
     dsimp only
     rw[J1j vw _ g (by omega)]
     exact Ag.no (by omega) (by omega)
   | false=>
     have aE:((decide (d=[])&&!decide (rs=[]))&&kyT (tp T j))=false:=by
      cases aF:kyT (tp T j)with
      | false=>rw[G2d]
      | true=>
        rw[aF,G2x]at hk
        rw[hk]
        rfl
     rw[aE,Q0a]
     cases p:(bW (tp T j)||bR (tp T j))with
     | true=>
       have:=aq p hk
       rw[hk]at this
       exact this
     | false=>
       rw[G1x]at p
       rw[p.1,p.2,ak]
       exact Ag.ok (j:=j) ⟨show(1:Int)≠14 by decide,by rw[Q3r];simp only[nCs];omega⟩ (by omega) h2
theorem X1g(a:OkR T D)(d:HW S T D b iw ww vw)(e:0<=iw)(hb:(T.length:Int)<=b)(f:0<=i)(g:iw<=i)(k:i<=T.length)(hk:kyT (tp T i)=false)(l:(bW (tp T i)||bR (tp T i))=true):
 Ag (Kc i) T.length (i+1) (b+6) (F231 ww S T D i) ((F181 vw 0 (tp T i).at_ [] S T D i 0 0 []).bind drp):=by
 have hT:=a.ok.len
 rw[F231,Q1t f (by omega),G0a,F181]
 exact Z0i a d e hb (tp T i) i T.length BIG BIG i [] [] g (G5e _) k (by omega) (by unfold BIG;omega) (by unfold BIG;omega) (by simp;omega) (by simp;omega) (λ_ _=>⟨hk,l⟩) (λh=>absurd h (by simp))
end
end Go.Abs.U48
namespace Go.Abs.U48
open Go Go.Proofs
section
variable {S:Str}{T:List Token}{D:List Str}{b ic iw:Int}{wc:PCm}{vc:RCm}{ww:PWd}{vw:RWd}{i j n:Int}
theorem Z1d(a:0<=j)(h:j<=4000000000000000000)(hk:(tp T j).kind_≠3):F168 S T D j=some j:=by
 show Q4j S T D (iter (Q4j S T D) 1180591620717411303423) j=_
 rw[Q4j,Q1t a (by omega),G0a,G0d hk,Q0a]
theorem Q8z(ww:PWd)(i:Int):F257 ww S T D i=(F168 S T D i).bind λa=>(F84 0 S T D a).bind λd=>(F129 d).bind λe=>
 (bif !e then some (.inr ([],a))else Q0i (ww S T D a) λ(f,g)=>(appO 88 ([]:List Word) [f]).bind λk=>iter (Q3n S T D ww) 1180591620717411303423 (g,k)):=by
 show Q3n S T D ww (iter (Q3n S T D ww) 1180591620717411303423) (i,[])=_
 rw[Q3n]
theorem X8y(ww:PWd)(e:F168 S T D i=some j)(a:0<=j)(h:j<=4000000000000000000)(hk:(tp T j).kind_≠3):F257 ww S T D j=F257 ww S T D i:=by
 rw[Q8z ww i,Q8z ww j,e,Z1d a h hk]
theorem J3p(ww:PWd):∀ (m:Nat) (x:Int) (l l':List Word) (j:Int),iter (Q3n S T D ww) m (x,l)=some (.inr (l',j))->l.length<=l'.length
 | 0,_,_,_,_,h=>by cases h
 | m+1,x,l,l',j,h=>by
   have h:Q3n S T D ww (iter (Q3n S T D ww) m) (x,l)=some (.inr (l',j)):=h
   rw[Q3n]at h
   dsimp only at h
   obtain⟨g,p,h⟩:=obs h
   obtain⟨s,t,h⟩:=obs h
   obtain⟨f,u,h⟩:=obs h
   cases f with
   | false=>
     simp only[G0q,Q0b]at h
     cases h
     exact G0o _
   | true=>
     simp only[G0u,Q0a]at h
     rcases Q0y h with⟨n,_,e⟩|⟨⟨a,k⟩,q,h⟩
     ·cases e
     obtain⟨o,d,h⟩:=obs h
     have:=J3p ww m k o l' j h
     unfold appO at d
     split at d
     ·cases d
      simp only[G0i,G0h,G0j]at this
      omega
     cases d
theorem X8x(ww:PWd)(h:F257 ww S T D i=some (.inr ([],j))):F168 S T D i=some j:=by
 rw[Q8z]at h
 obtain⟨l,f,h⟩:=obs h
 obtain⟨m,p,h⟩:=obs h
 obtain⟨g,s,h⟩:=obs h
 cases g with
 | false=>
   simp only[G0q,Q0b]at h
   cases h
   exact f
 | true=>
   simp only[G0u,Q0a]at h
   rcases Q0y h with⟨n,_,e⟩|⟨⟨a,k⟩,q,h⟩
   ·cases e
   obtain⟨o,d,h⟩:=obs h
   have:=J3p ww _ k o [] j h
   unfold appO at d
   split at d
   ·cases d
    simp at this
   cases d
theorem X0f(vw:RWd)(j n:Int)(r:Str):Q5k vw S T D j r (47,n)=some (Word.mk 7 r [] [] [],j,47,n):=by
 rw[Q5k]
 dsimp only
 rw[F205,Z7j vw BIG (by unfold BIG;omega),G0a]
theorem K5o(k:OkT T)(H:HW S T D b iw ww vw)(I:0<=iw)(hb:(T.length:Int)<=b)(ah:b<=2000000000000000000)(h0:0<=i)(ak:iw<=i+1)(h2:i<T.length):
 Ag (Kw i) T.length (i+1) (b+6) (F286 ww S T D (i+1)) ((F59 S T D (i+1) 0 0).bind λA=>
  (F173 S T D (i+1) 0 0).bind λ(q,m,d,e)=>
  (bif decide (d=0)then
    (F58 [40] S T D m d e).bind λJ=>
    (bif J then
      (F59 S T D m d e).bind λK=>
      (bif decide (K.at_=IntKind.wrap .i64 (A.at_+(A.text_.length:Int)))then
        (F97 S T D (IntKind.wrap .i64 (m+1)) d e).bind λu=>
        (F58 [41] S T D u d e).bind λL=>
        (bif L then
          (F60 S T D u d e).bind λ(M,O)=>
          Q5k vw S T D u q (M,O)
        else
         Q5k vw S T D u q (d,e))
      else
       some (Word.mk 2 q [] [] [],m,d,e))
    else
     some (Word.mk 2 q [] [] [],m,d,e))
  else
   some (Word.mk 2 q [] [] [],m,d,e))):=by
 have hT:=k.len
 rw[F286,Q1t (by omega) (by omega),G0a]
 cases o:(plT (tp T (i+1))&&Q3q (tp T (i+1)).text_)with
 | false=>
   obtain⟨t,Q,-⟩:=Q2l (S:=S) (T:=T) (D:=D) 0 0 (show 0<=i+1 by omega)
   rw[J8e k (by omega) (by omega) o,J8f k (by omega) (by omega) o,Q,G0a,G0a]
   dsimp only
   rw[e47,Q0a]
   exact Ag.no (by omega) (by omega)
 | true=>
   have U:=J6x (T:=T) (i:=i+1) (by rw[G0k]at o;exact o.1) (by omega)
   rw[J8d k (by omega) (by omega) o,J3s k (by omega) (by omega) o,Z6z 0 0 (by omega) U,G0a,G0a,Q3k]
   dsimp only
   rw[e00,Q0b,J1n _ (by omega) (by omega),G0a,Q1m _ _ _ (by omega),G0a]
   cases V:isT (tp T (i+1+1)) [40]with
   | false=>exact Ag.ok (show(nW _:Int)+5<=_ by rw[Q6s];simp only[nWs,nCs];omega) (by omega) (by omega)
   | true=>
     have W:=Q3g V (by omega)
     simp only[G0u,Q0a,Q0b]
     rw[Q1t (by omega) (by omega),G0a,Z6z 0 0 (by omega) W,G0a]
     cases am:decide ((tp T (i+1+1)).at_=IntKind.wrap .i64 ((tp T (i+1)).at_+((tp T (i+1)).text_.length:Int)))with
     | false=>exact Ag.ok (show(nW _:Int)+5<=_ by rw[Q6s];simp only[nWs,nCs];omega) (by omega) (by omega)
     | true=>
       simp only[G0u,Q0a,Q0b]
       obtain⟨j',X,Y,e3,e4,x⟩:=Q7a (S:=S) k (i:=i+1+1+1) (by omega) (by omega)
       rw[wr1 (by omega) (by omega),Y,G0a,Q1m _ _ _ (by omega),G0a,Z1y _ (by omega),G0a]
       dsimp only
       rw[X0f]
       have C:=X8y (S:=S) (D:=D) ww (X D) (by omega) (by omega) x
       rcases Z9r k H I hb (i:=j') (by omega) (by omega)with⟨n,f,a,s,p2,g1,g2⟩|⟨l,s,f,g1,g2,g3,E⟩
       ·cases hq:isT (tp T j') [41]with
        | true=>
          exfalso
          have y:=X4m hq
          rw[Q8z,Z1d (by omega) (by omega) x,G0a,Q1t (by omega) (by omega),G0a,Q5n,G0a,y]at f
          cases f
        | false=>
          rw[Q0a,Q5k]
          dsimp only
          rw[<-C,f,p2,Q4h,G0a]
          exact Ag.no (j:=s) (by omega) (by omega)
       rw[<-C,f,Q3k]
       dsimp only
       have ad:l=[]->s=j':=by
        intro hl
        rw[hl]at f
        have:=X8x ww f
        rw[Z1d (by omega) (by omega) x]at this
        cases this
        rfl
       have af:decide ((l.length:Int)=0)=decide (l=[]):=by
        cases l with
        | nil=>rfl
        | cons a l=>rw[G0d (by simp only[G0h];omega),G0d (by simp)]
       rw[af,Q8x (by omega),Z7d]
       cases F:decide (l=[])with
       | true=>
         have:=ad (G3y F)
         subst this
         rw[Q0b,Q4h]
         cases hq:isT (tp T s) [41]with
         | true=>
           rw[Q0b]
           exact Ag.no (by omega) (by omega)
         | false=>
           rw[Q0a,Q5k]
           dsimp only
           rcases E with⟨g,p⟩|⟨g,a,z,p,g4,g5⟩
           ·rw[hq]at g
            cases g
           rw[p,G0a]
           exact Ag.no (j:=z) (by omega) (by omega)
       | false=>
         have hq:isT (tp T j') [41]=false:=by
          cases hq:isT (tp T j') [41]with
          | false=>rfl
          | true=>
            exfalso
            have y:=X4m hq
            rw[Q8z,Z1d (by omega) (by omega) x,G0a,Q1t (by omega) (by omega),G0a,Q5n,G0a,y]at f
            cases f
            cases F
         rw[Q0a,hq,Q0a,Q5k]
         dsimp only
         rcases E with⟨g,p⟩|⟨g,a,z,p,g4,g5⟩
         ·have ar:=Q3g g (by omega)
          rw[p,G0a,Q5h (by omega) (by omega) g]
          exact Ag.ok (j:=s+1) (show(nW _:Int)+5<=_ by have:=g3.2;rw[Q6s];simp only[nCs];omega) (by omega) (by omega)
         rw[p,G0a,Q7z (by omega) (by omega) g]
         exact Ag.no (j:=z) (by omega) (by omega)
end
end Go.Abs.U48
namespace Go.Abs.U48
open Go Go.Proofs
section
variable {S:Str}{T:List Token}{D:List Str}{b ic iw:Int}{wc:PCm}{vc:RCm}{ww:PWd}{vw:RWd}{i j n:Int}
theorem Z4v{t:Token}{s:Str}(h:isT t s=true):t.kind_=2/\t.text_=s:=by
 rw[isT,G0k,G0s,G0s]at h
 exact h
theorem J0e(g:OkT T)(h:HC S T D b ic wc vc)(A:HW S T D b iw ww vw)(H:0<=ic)(C:0<=iw)(hb:(T.length:Int)<=b)(I:b<=2000000000000000000)(d:0<=i)(V:ic<=i+1)(J:iw<=i+1)(W:i<=T.length):
 Ag (Kw i) T.length (i+1) (b+6) (F274 wc ww S T D i) (F202 vc vw S T D i 0 0):=by
 have hT:=g.len
 rw[F274,F202,Q1t d (by omega),G0a,Q5n,G0a]
 cases q:bW (tp T i)with
 | false=>
   obtain⟨t,K,k1,-⟩:=Q2l (S:=S) (T:=T) (D:=D) 0 0 d
   rw[bW,G1x,G1x,G1x,G1x]at q
   obtain⟨g1,⟨⟨u,g3⟩,g4⟩,L⟩:=q
   simp only[G0q,Q0b]
   rw[Q8x d,Q4h,K,G0a,k1,g1,Q0a]
   simp only[Q1m _ _ _ d,G0a,u,g3,g4,L,Q0a]
   rw[Z1y _ d]
   exact Ag.no d (by omega)
 | true=>
   have E:=K4b q d
   simp only[G0u,Q0a]
   rw[Z7e,Z6z 0 0 d E,G0a,wr1 d (by omega)]
   cases hk:decide ((tp T i).kind_=1)with
   | true=>exact Ag.ok (show(nW _:Int)+5<=_ by rw[Q6s];simp only[nWs,nCs];omega) (by omega) (by omega)
   | false=>
     rw[Q0a,Q0a]
     simp only[Q1m _ _ _ d,G0a]
     rw[bW,hk,G1p]at q
     cases g1:isT (tp T i) [36]with
     | true=>
       rw[(Z4v g1).2,Z5y g1 (by decide),G0e rfl,Q0b,Q0a,Q0b]
       have:=K5o g A C hb I d J E
       rcases this with⟨a,j,x,y,M,f,m⟩|⟨n,a,j,x,y,f,m⟩
       ·rw[x,Q3k]
        exact .inl ⟨a,j,rfl,y,M,f,m⟩
       rw[x,Q4h]
       exact .inr ⟨n,a,j,rfl,y,f,m⟩
     | false=>
     cases u:isT (tp T i) [36,35]with
     | true=>
       rw[(Z4v u).2,G0d (p:=([36,35]:Str)=[36]) (by decide),G0e rfl,Q0b,Q0a,Q0b]
       cases s:(plT (tp T (i+1))&&Q3q (tp T (i+1)).text_)with
       | false=>
         rw[J8e g (by omega) (by omega) s,J8f g (by omega) (by omega) s,Q4h,G0a]
         exact Ag.no (j:=i+1+1) (by omega) (by omega)
       | true=>
         have X:=J6x (T:=T) (i:=i+1) (by rw[G0k]at s;exact s.1) (by omega)
         rw[J8d g (by omega) (by omega) s,J3s g (by omega) (by omega) s,Q3k,G0a]
         exact Ag.ok (j:=i+1+1) (show(nW _:Int)+5<=_ by rw[Q6s];simp only[nWs,nCs];omega) (by omega) (by omega)
     | false=>
     cases g3:isT (tp T i) [40]with
     | true=>
       rw[(Z4v g3).2,G0d (p:=([40]:Str)=[36]) (by decide),G0d (p:=([40]:Str)=[36,35]) (by decide),G0e rfl,Q0a,Q0a,Q0b,Q0a,Q0a,Q0b]
       rcases Z9r g A C hb (i:=i+1) (by omega) (by omega)with⟨n,o,O,j,e,f,m⟩|⟨l,j,o,f,m,F,⟨e,z⟩|⟨e,O,Q,z,U,Y⟩⟩
       ·rw[o,e,Q4h,G0a]
        exact Ag.no (j:=j) f (by omega)
       ·have ac:=Q3g e (by omega)
        rw[o,z,Q3k,G0a]
        dsimp only
        rw[Q5h (by omega) (by omega) e,Q3k]
        exact Ag.ok (j:=j+1) (show(nW _:Int)+5<=_ by have:=F.2;rw[Q6s];simp only[nCs];omega) (by omega) (by omega)
       rw[o,z,Q3k,G0a]
       dsimp only
       rw[Q7z (by omega) (by omega) e,Q4h]
       exact Ag.no (j:=Q) U (by omega)
     | false=>
       rw[g1,u,g3,G1p,G1p,G1p]at q
       rw[(Z4v q).2,G0d (p:=([96]:Str)=[36]) (by decide),G0d (p:=([96]:Str)=[36,35]) (by decide),G0d (p:=([96]:Str)=[40]) (by decide),q]
       simp only[Q0a,Q0b]
       rcases Z6m g h H hb (by omega) (i:=i+1) (by omega) (by omega) (by omega)with⟨n,o,k,a,nm,l,j,e,f,m⟩|⟨l,j,o,f,F,m,-,e⟩
       ·rw[o,e,Q4h,G0a]
        exact Ag.no (j:=j) f (by omega)
       rw[o,e,Q3k,G0a]
       exact Ag.ok (j:=j) (show(nW _:Int)+5<=_ by rw[Q6s];simp only[nWs];omega) (by omega) m
theorem K5e(e:OkT T)(vc:RCm)(vw:RWd)(d:0<=j)(h:j<=2900000000000000000):∃a j',F202 vc vw S T D j 47 n=some (a,j',47,n)/\j<=j'/\j'<=j+3:=by
 obtain⟨t,f,-⟩:=Q2l (S:=S) (T:=T) (D:=D) 47 n d
 obtain⟨t2,g,-⟩:=Q2l (S:=S) (T:=T) (D:=D) 47 n (show 0<=j+1 by omega)
 obtain⟨l,k⟩:=X6b (S:=S) (T:=T) (D:=D) (n:=n) vc [123] [125] (i:=j+1) (by omega) (by omega)
 rw[F202,f,G0a,wr1 d (by omega),g,X6d e (by omega) (by omega),k,J8a,F205,Z7j vw BIG (by unfold BIG;omega)]
 simp only[Q1m _ _ _ d,G0a,e47,Q0a]
 cases decide (t.kind_=1)with
 | true=>exact⟨_,_,rfl,by omega,by omega⟩
 | false=>
   cases isT (tp T j) [36,35]with
   | true=>exact⟨_,_,rfl,by omega,by omega⟩
   | false=>
     cases isT (tp T j) [36]with
     | true=>exact⟨_,_,rfl,by omega,by omega⟩
     | false=>
       cases isT (tp T j) [40]with
       | true=>exact⟨_,_,rfl,by omega,by omega⟩
       | false=>
         cases isT (tp T j) [96]with
         | true=>exact⟨_,_,rfl,by omega,by omega⟩
         | false=>exact⟨_,_,rfl,by omega,by omega⟩
theorem X6c(d:OkT T)(vc:RCm)(vw:RWd)(f:0<=j)(h:j<=2900000000000000000):∃a j',F175 vc vw S T D j 47 n=some (a,j',47,n)/\j<=j'/\j'<=j+3:=by
 obtain⟨a,j',e,g,k⟩:=K5e (S:=S) (D:=D) (n:=n) d vc vw f h
 refine⟨a,j',?_,g,k⟩
 rw[F175,e,G0a]
 rfl
theorem Z9h(vc:RCm)(vw:RWd)(m:Nat)(e:0<m)(l:List Word)(f:2<=l.length)(j n:Int)(a:0<=j)(d:j<=b):Bad b n (iter (Q5l S T D vc vw) m (j,47,n,l)):=by
 cases m with
 | zero=>omega
 | succ m=>
   show Bad b n (Q5l S T D vc vw (iter (Q5l S T D vc vw) m) (j,47,n,l))
   rw[Q5l]
   dsimp only
   rw[e47,Q0a,G0d (by omega),Q0a]
   exact Bad.mk a d
theorem J1o(g:OkT T)(h:HC S T D b ic wc vc)(q:HW S T D b iw ww vw)(s:0<=ic)(t:0<=iw)(hb:(T.length:Int)<=b)(u:b<=2000000000000000000)(i0:Int):
 ∀ (k m d:Nat) (j:Int) (l:List Word),ic<=j+1->iw<=j+1->0<=j->i0<j->j<=T.length->(T.length:Int)<=j+k->k<m->k+1<d->2<=l.length->(l.length:Int)<=j->(nWs l:Int)+6<=8 * (j-i0)->
 Ag (Kw i0) T.length (i0+1) (b+6) (iter (Z0q S T D wc ww) m (j,l)) (iter (Q5l S T D vc vw) d (j,0,0,l))
 | k,0,_,_,_,_,_,_,_,_,_,o,_,_,_,_=>absurd o (G1t _)
 | k,_,0,_,_,_,_,_,_,_,_,_,o,_,_,_=>absurd o (G1t _)
 | k,m+1,d+1,j,l,A,C,e,E,x,F,H,I,J,K,L=>by
   have hT:=g.len
   have y:¬ ((l.length:Int)=1):=by omega
   show Ag _ _ _ _ (Z0q S T D wc ww (iter (Z0q S T D wc ww) m) (j,l)) (Q5l S T D vc vw (iter (Q5l S T D vc vw) d) (j,0,0,l))
   rw[Z0q,Q5l]
   dsimp only
   rw[Q7v _ e (by omega),G0a,e00,Q0b,Q1m _ _ _ e,G0a]
   dsimp only
   cases hs:isT (tp T j) [94]with
   | false=>
     simp only[Q0a]
     rw[G0d y,Q0a,Q0a]
     exact Ag.ok (show(nW _:Int)+5<=_ by rw[Q6s];simp only[nCs];omega) (by omega) x
   | true=>
     simp only[Q0b]
     have M:=Q3g hs e
     rw[wr1 e (by omega)]
     refine Ag.bind (J0e g h q s t hb u (i:=j+1) (by omega) (by omega) (by omega) (by omega)) (λa f z g1 p=>?_) (λn a f g1 p=>?_)
     ·dsimp only
      rw[Q0n (by simp only[G0h,G0j];omega),G0a,G0a]
      cases k with
      | zero=>omega
      | succ k=>exact J1o g h q s t hb u i0 k m d f (l++[a]) (by omega) (by omega) (by omega) (by omega) p (by omega) (by omega) (by omega) (by simp;omega) (by simp;omega) (by have:(nW a:Int)+5<=8 * (f-(j+1)):=z;rw[Z2j];omega)
     dsimp only
     rw[Q0n (by simp only[G0h,G0j];omega),G0a]
     exact Z9h vc vw d (by omega) _ (by simp;omega) f n g1 p
theorem K1i(d:OkT T)(h:HC S T D b ic wc vc)(f:HW S T D b iw ww vw)(g:0<=ic)(k:0<=iw)(hb:(T.length:Int)<=b)(l:b<=2000000000000000000)(p:0<=i)(q:ic<=i+1)(s:iw<=i+1)(t:i<=T.length):
 Ag (Kw i) T.length (i+1) (b+6) (F252 wc ww S T D i) (F175 vc vw S T D i 0 0):=by
 have hT:=d.len
 rw[F252,F175]
 refine Ag.bind (J0e d h f g k hb l p q s t) (λa j o g1 m=>?_) (λn a j g1 m=>?_)
 ·dsimp only
  rw[Q7v _ (by omega) (by omega),G0a,e00,Q0b,Q1m _ _ _ (by omega),G0a]
  dsimp only
  cases hs:isT (tp T j) [94]with
  | false=>exact Ag.ok o g1 m
  | true=>
    simp only[Q0b]
    have x:=Q3g hs (by omega)
    rw[wr1 (by omega) (by omega)]
    refine Ag.bind (J0e d h f g k hb l (i:=j+1) (by omega) (by omega) (by omega) (by omega)) (λa2 e u g3 g4=>?_) (λn a2 e g3 g4=>?_)
    ·dsimp only
     rw[Q0n (by simp only[G0h,G0j];omega),G0a,G0a]
     exact J1o d h f g k hb l i T.length BIG BIG e [a,a2] (by omega) (by omega) (by omega) (by omega) g4 (by omega) (by unfold BIG;omega) (by unfold BIG;omega) (by simp) (by simp only[G0h,G0j];omega) (by have:(nW a:Int)+5<=8 * (j-i):=o;have:(nW a2:Int)+5<=8 * (e-(j+1)):=u;simp only[nWs];omega)
    dsimp only
    rw[Q0n (by simp only[G0h,G0j];omega),G0a]
    exact Z9h vc vw BIG (by unfold BIG;omega) [a,a2] (by simp) e n g3 g4
 dsimp only
 rw[e47,Q0a]
 exact Bad.mk g1 m
theorem K5d(d:OkT T)(wc:PCm)(ww:PWd)(a:0<=i)(f:i<=T.length)(e:bW (tp T i)=false):F252 wc ww S T D i=some (.inl (atf S T i)):=by
 have hT:=d.len
 rw[F252,F274,Q1t a (by omega),G0a,Q5n,G0a,e]
 simp only[G0q,Q0b]
 rw[Q8x a]
 rfl
end
end Go.Abs.U48
namespace Go.Abs.U48
open Go Go.Proofs
section
variable {S:Str}{T:List Token}{D:List Str}{b ic iw:Int}{wc:PCm}{vc:RCm}{ww:PWd}{vw:RWd}{i j n:Int}
theorem X2q(t:Token):kyT t=((((((keyT t [105,102]||keyT t [119,104,105,108,101])||keyT t [102,111,114])||keyT t [115,119,105,116,99,104])||keyT t [99,97,115,101])||keyT t [102,110])||keyT t [126]):=by
 simp only[kyT,keyB,keyT]
 cases decide (t.kind_=1)with
 | false=>simp only[G1o,G2n]
 | true=>
   cases Q2u t.quoted_ with
   | true=>simp only[G0u,G2d,G2n]
   | false=>simp only[G0q,G2x,G1i]
theorem Z9g(f:OkT T)(vw:RWd)(at_:Int)(a:0<=i)(h:i<=3000000000000000000)(g:kyT (tp T i)=true\/(bW (tp T i)||bR (tp T i))=false):
 (F181 vw 0 at_ [] S T D i 0 0 []).bind drp=(bif kyT (tp T i)then some (Cmd.mk 1 at_ [] [] [] [],i+1,47,atf S T (i+1))else some (Cmd.mk 1 at_ [] [] [] [],i,47,atf S T i)):=by
 obtain⟨t,l,k1,k2,m,-⟩:=Q2l (S:=S) (T:=T) (D:=D) 0 0 a
 have hq:=(f.tl i).2.1
 have o:bR (tp T i)=false:=by
  rcases g with hk|hk
  ·exact(K7a hk).2
  rw[G1x]at hk
  exact hk.2
 have k:∀j n,((iter (Q1n S T D vw at_ []) 1180591620717411303423 (j,47,n,[],[])).bind drp)=some (Cmd.mk 1 at_ [] [] [] [],j,47,n):=λj n=>J1j vw at_ _ (by omega) j n [] []
 show(Q1n S T D vw at_ [] (iter (Q1n S T D vw at_ []) 1180591620717411303423) (i,0,0,[],[])).bind drp=_
 rw[Q1n]
 dsimp only
 rw[e00,Q0b,J1k _ _ f a,G0a,o,Q0a,l,G0a,k1,k2,m,Z7k _ _ a,G0a,wr1 a (by omega)]
 rw[show decide (((([]:List Word).length:Nat):Int)=0)=true from rfl,Q0b,show decide (((([]:List Redir).length:Nat):Int)=0)=true from rfl,Q0b,Z1y _ (show 0<=i+1 by omega),Z1y _ a,G0a,G0a,X6a]
 dsimp only
 rw[show decide (IntKind.wrap .i64 (((([]:List Word).length:Nat):Int)+((([]:List Redir).length:Nat):Int))=0)=true from rfl,Q0b,Z3a _ (by omega)]
 cases hk:kyT (tp T i)with
 | true=>
   rw[kyT]at hk
   simp only[G0k]at hk
   rw[hk.1.1,Q0g,G0a,hk.1.2,G1i,Q0g,G0a]
   rw[hk.2,G1i,Q0b]
   exact k _ _
 | false=>
   have e:bW (tp T i)=false:=by
    rcases g with d|d
    ·rw[hk]at d
     cases d
    rw[G1x]at d
    exact d.1
   have p:decide ((tp T i).kind_=1)=false:=by
    rw[bW,G1x]at e
    exact e.1
   rw[p,e]
   exact k _ _
theorem X5x(d:OkT T)(wc:PCm)(ww:PWd)(c:Bool)(a:0<=i)(l:i<=T.length)(hb:bC (tp T i)=false):F200 wc ww c S T D i=some (.inl (atf S T i)):=by
 have hT:=d.len
 have f:=hb
 rw[bC]at hb
 simp only[G1x]at hb
 obtain⟨⟨⟨⟨g1,m⟩,g3⟩,g4⟩,g⟩:=hb
 have e:plT (tp T i)=false:=by
  rw[bW,G1x]at g1
  rw[plT,g1.1,G1o]
 have hk:kwT (tp T i)=[]:=by rw[kwT,e];rfl
 have k:(c&&csT T i)=false:=by
  rw[csT,J0h g1,G1o,G2d]
 rw[F200,Q1t a (by omega),G0a,K4t a (by omega),G0a,Z7o,G0a,e]
 simp only[Q1s,G0a,G1o,Q0a,Z3d,g3,g4,g,Z6w (d.tl i).1,hk]
 show Z0r c S T D ww i=_
 rw[Z0r,Z6n c d a (by omega),G0a,k,f]
 simp only[G0q,G2d,Q0b]
 rw[Q8x a]
 rfl
theorem V6e(A:OkR T D)(h:HC S T D b ic wc vc)(o:HW S T D b iw ww vw)(q:0<=ic)(y:0<=iw)(hb:(T.length:Int)<=b)(l:b<=2000000000000000000)(c:Bool)(d:0<=i)(f:ic<=i+1)(X:iw<=i)(J:i<=T.length):
 Ag (Kc i) T.length (i+1) (b+6) (F200 wc ww c S T D i) (F142 vc vw S T D i 0 0):=by
 have e:=A.ok
 have hT:=e.len
 obtain⟨t0,Y,-,-,-,aD⟩:=Q2l (S:=S) (T:=T) (D:=D) 0 0 d
 cases g:bC (tp T i)with
 | false=>
   rw[X5x e wc ww c d J g]
   have aE:=g
   rw[bC]at g
   simp only[G1x]at g
   obtain⟨⟨⟨⟨g1,g2⟩,g3⟩,g4⟩,C⟩:=g
   have hk:∀s,keyT (tp T i) s=false:=λs=>J0h g1
   have hp:plT (tp T i)=false:=by
    rw[bW,G1x]at g1
    rw[plT,g1.1,G1o]
   have t:kyT (tp T i)=false:=by
    rw[X2q]
    simp only[hk,G2n]
   refine Ag.bad ?_ rfl
   rw[F142,Y,G0a]
   simp only[J6b _ _ e d (show i<=4611686018427387904 by omega),asg,hp,G1o,G0a,Q0a,Q1m _ _ _ d,g3,g4,C,Z0v _ _ _ e d,hk,e00,G0u]
   have:=Z9g (S:=S) (D:=D) e vw t0.at_ d (by omega) (.inr (by rw[g1,g2];rfl))
   rw[t,Q0a]at this
   exact⟨Cmd.mk 1 t0.at_ [] [] [] [],i,this,d,by omega⟩
 | true=>
   have k:i<T.length:=by
    rcases G6e i T.length with E|E
    ·exact E
    rw[Z0y E]at g
    exact absurd g (by decide)
   have m:F59 S T D i 0 0=some (tp T i):=Z6z 0 0 d k
   have K:∀ (p:Option (Int ⊕ (Cmd×Int))),(Q0i p λ(ad,ae)=>some (.inr (ad,ae)))=p:=by
    intro p
    cases p with
    | none=>rfl
    | some x=>cases x<;>rfl
   have af:∀ (p:Option (Cmd×Int×Int×Int)),(p.bind λ(ag,ah,aj,ak)=>some (ag,ah,aj,ak))=p:=by
    intro p
    cases p<;>rfl
   rw[F200,F142,Q1t d (by omega),G0a,K4t d (by omega),G0a,Z7o,G0a,m,G0a,e00,J6b _ _ e d (by omega),G0a]
   simp only[K,af,G0u,Q0a]
   have z:((Q0e (plT (tp T i)) (F144 (tp T i).text_)).bind λF=>(Q0e (plT (tp T i)&&F) (F128 (tp T (i+1)) [61])).bind λL=>some ((plT (tp T i)&&F)&&L))=some (asg T i):=by
    rw[asg]
    cases plT (tp T i)with
    | false=>rfl
    | true=>
      rw[Q0g,J6a _ (by have:=(e.tl i).1;omega),G0a]
      cases Q3q (tp T i).text_<;>rfl
   obtain⟨F,al,z⟩:=obs z
   obtain⟨L,am,z⟩:=obs z
   rw[al,G0a,am,G0a,G3g z]
   cases ha:asg T i with
   | true=>
     rw[Q0b,Q0b]
     exact X4n e h o hb l c d f (by omega) ha
   | false=>
     rw[Q0a,Q0a]
     simp only[Z3d,G0a,Q1m _ _ _ d,Z0v _ _ _ e d,Z6w (e.tl _).1]
     cases g3:isT (tp T i) [33]with
     | true=>
       rw[Q0b,Q0b,Z5y g3 (by decide),Q0a,Z7n,wr1 d (by omega)]
       exact X9k e h hb c 7 (by decide) (by decide) d f k
     | false=>
       rw[Q0a,Q0a]
       cases g4:isT (tp T i) [64]with
       | true=>
         rw[Q0b,Q0b,Q0b,wr1 d (by omega)]
         exact X9k e h hb c 13 (by decide) (by decide) d f k
       | false=>
         rw[Q0a,Q0a]
         cases C:isT (tp T i) [123]with
         | true=>
           rw[Q0b,Q0b]
           exact X8h A h o q y hb l d f (by omega) k
         | false=>
           rw[Q0a,Q0a]
           simp only[Q4g (show kwsB [105,102]=true by kernel_rfl),Q4g (show kwsB [110,111,116]=true by kernel_rfl),Q4g (show kwsB [119,104,105,108,101]=true by kernel_rfl),Q4g (show kwsB [102,111,114]=true by kernel_rfl),Q4g (show kwsB [115,119,105,116,99,104]=true by kernel_rfl),Q4g (show kwsB [102,110]=true by kernel_rfl),Q4g (show kwsB [126]=true by kernel_rfl),Q4g (show kwsB [99,97,115,101]=true by kernel_rfl)]
           have u:∀ {s:Str},keyT (tp T i) s=true->(tp T i).text_=s:=by
            intro s hk
            rw[keyT,G0k,G0k,G0s,G0s]at hk
            exact hk.1.2
           cases k1:keyT (tp T i) [105,102]with
           | true=>
             rw[Q0b,Q0b,F180,m,G0a,u k1]
             simp only[G4n,Q0b,wr1 d (show i<=4611686018427387904 by omega),Z0v _ _ _ e (show 0<=i+1 by omega),G0a]
             cases kn:keyT (tp T (i+1)) [110,111,116]with
             | true=>
               have ar:=J3y (T:=T) (i:=i+1) (by rw[Z8j kn];decide) (by omega)
               rw[Q0b,Q0b,wr1 (by omega) (by omega),show i+1+1=i+2 by omega]
               exact K6e e h hb c d f ar
             | false=>
               rw[Q0a,Q0a]
               exact X0m e h q hb l c 8 (by decide) d f k
           | false=>
           rw[Q0a,Q0a]
           cases k2:keyT (tp T i) [119,104,105,108,101]with
           | true=>
             rw[Q0b,Q0b,F180,m,G0a,u k2]
             rw[show decide (([119,104,105,108,101]:Str)=[105,102])=false from rfl,G0e (p:=([119,104,105,108,101]:Str)=[119,104,105,108,101]) rfl,Q0a,Q0b,Q0a,wr1 d (by omega)]
             simp only[Q0b]
             exact X0m e h q hb l c 11 (by decide) d f k
           | false=>
           rw[Q0a,Q0a]
           cases M:keyT (tp T i) [102,111,114]with
           | true=>
             rw[Q0b,Q0b,F180,m,G0a,u M]
             rw[show decide (([102,111,114]:Str)=[105,102])=false from rfl,show decide (([102,111,114]:Str)=[119,104,105,108,101])=false from rfl,G0e (p:=([102,111,114]:Str)=[102,111,114]) rfl,Q0a,Q0a,Q0b,wr1 d (by omega)]
             exact V1m e h o q y hb l c d f (by omega) k
           | false=>
           rw[Q0a,Q0a]
           cases O:keyT (tp T i) [115,119,105,116,99,104]with
           | true=>
             rw[Q0b,Q0b,F180,m,G0a,u O]
             rw[show decide (([115,119,105,116,99,104]:Str)=[105,102])=false from rfl,show decide (([115,119,105,116,99,104]:Str)=[119,104,105,108,101])=false from rfl,show decide (([115,119,105,116,99,104]:Str)=[102,111,114])=false from rfl,G0e (p:=([115,119,105,116,99,104]:Str)=[115,119,105,116,99,104]) rfl,Q0a,Q0a,Q0a,Q0b,wr1 d (by omega)]
             exact V9l e h o q y hb l d f (by omega) k
           | false=>
           rw[Q0a,Q0a]
           cases Q:keyT (tp T i) [102,110]with
           | true=>
             rw[Q0b,Q0b,F180,m,G0a,u Q]
             rw[show decide (([102,110]:Str)=[105,102])=false from rfl,show decide (([102,110]:Str)=[119,104,105,108,101])=false from rfl,show decide (([102,110]:Str)=[102,111,114])=false from rfl,show decide (([102,110]:Str)=[115,119,105,116,99,104])=false from rfl,G0e (p:=([102,110]:Str)=[102,110]) rfl,Q0a,Q0a,Q0a,Q0a,Q0b,wr1 d (by omega)]
             exact Y2w e h q hb l d f k
           | false=>
           rw[Q0a,Q0a]
           cases U:keyT (tp T i) [126]with
           | true=>
             rw[Q0b,Q0b,F180,m,G0a,u U]
             rw[show decide (([126]:Str)=[105,102])=false from rfl,show decide (([126]:Str)=[119,104,105,108,101])=false from rfl,show decide (([126]:Str)=[102,111,114])=false from rfl,show decide (([126]:Str)=[115,119,105,116,99,104])=false from rfl,show decide (([126]:Str)=[102,110])=false from rfl,Q0a,Q0a,Q0a,Q0a,Q0a,wr1 d (by omega)]
             rcases X0z e o y hb wc (i:=i) d (by omega) k with⟨n,H,-,a,j',e3,V,W⟩|⟨ws,j2,H,V,W,⟨aG,hN⟩,e2,-⟩
             ·rw[H,e3,G0a]
              exact Ag.no (j:=j') V (by omega)
             rw[H,e2,G0a]
             exact Ag.ok (j:=j2) ⟨show(16:Int)≠14 by decide,by rw[Q3r];simp only[nCs,nRs];omega⟩ (by omega) W
           | false=>
           rw[Q0a,Q0a]
           have aI:((F181 vw 0 (tp T i).at_ [] S T D i 0 0 []).bind λ(ax,ay,az,aA,aJ)=>some (ax,ay,az,aA))=(F181 vw 0 (tp T i).at_ [] S T D i 0 0 []).bind drp:=by
            congr 1
           cases I:keyT (tp T i) [99,97,115,101]with
           | true=>
             have t:kyT (tp T i)=true:=by
              rw[X2q,I,G5r]
              rfl
             have:=Z9g (S:=S) (D:=D) e vw (tp T i).at_ d (by omega) (.inl t)
             rw[t,Q0b]at this
             rw[Q0b,wr1 d (by omega),Q8x (by omega),Q4h]
             exact Ag.bad ⟨Cmd.mk 1 (tp T i).at_ [] [] [] [],i+1,this,by omega,by omega⟩ rfl
           | false=>
             have t:kyT (tp T i)=false:=by
              rw[X2q,k1,k2,M,O,Q,U,I]
              rfl
             have aB:(c&&csT T i)=false:=by
              rw[csT,I,G1o,G2d]
             have aC:(bW (tp T i)||bR (tp T i))=true:=by
              rw[bC,g3,g4,C,G2n,G2n,G2n]at g
              exact g
             rw[Q0a,Z0r,Z6n c e d (by omega),G0a,aB,g]
             simp only[G0q,G2x,G0u,Q0a,K]
             exact X1g A o y hb d X J t aC
theorem X6g(vc:RCm)(vw:RWd)(d:0<=j):∃a,F142 vc vw S T D j 47 n=some (a,j,47,n):=by
 obtain⟨t,e,-⟩:=Q2l (S:=S) (T:=T) (D:=D) 47 n d
 refine⟨Cmd.mk 0 t.at_ [] [] [] [],?_⟩
 rw[F142,e,G0a,e47]
 rfl
def bd(T:List Token)(k:Nat):Int:=T.length+10+6 * k
theorem K2w(d:OkR T D):∀ (k:Nat),(k:Int)<=100000000->∀ (m:Nat),k+1<=m->
 (∀ic:Int,0<=ic->2 * ((T.length:Int)-ic)+2<=k->HC S T D (bd T k) ic (K200 m) (K142 m))/\
 (∀iw:Int,0<=iw->2 * ((T.length:Int)-iw)+1<=k->HW S T D (bd T k) iw (K252 m) (K175 m)):=by
 intro k
 induction k with
 | zero=>
   intro hk m x
   cases m with
   | zero=>omega
   | succ m=>
   refine⟨λic g l=>⟨λc i e a=>by omega,λc i e a=>by omega,λj n f=>X6g (K142 m) (K175 m) f⟩,λiw g l=>⟨λi e a=>by omega,λi e a=>by omega,λj n f o=>X6c d.ok (K142 m) (K175 m) f o⟩⟩
 | succ k K2w=>
   intro hk m x
   cases m with
   | zero=>omega
   | succ m=>
   have hT:=d.ok.len
   obtain⟨p,q⟩:=K2w (by omega) m (by omega)
   have s:bd T (k+1)=bd T k+6:=by
    simp only[bd]
    omega
   have t:(T.length:Int)<=bd T k:=by
    simp only[bd]
    omega
   have u:bd T k<=2000000000000000000:=by
    simp only[bd]
    omega
   refine⟨λic g l=>⟨λc i e a=>?_,λc i e a hb=>X5x d.ok (K200 m) (K252 m) c (by omega) a hb,λj n f=>X6g (K142 m) (K175 m) f⟩,λiw g l=>⟨λi e a=>?_,λi e a hb=>K5d d.ok (K200 m) (K252 m) (by omega) a hb,λj n f o=>X6c d.ok (K142 m) (K175 m) f o⟩⟩
   ·rw[s]
    exact V6e d (p (i+1) (by omega) (by omega)) (q i (by omega) (by omega)) (by omega) (by omega) t u c (by omega) (by omega) (by omega) a
   rw[s]
   exact K1i d.ok (p (i+1) (by omega) (by omega)) (q (i+1) (by omega) (by omega)) (by omega) (by omega) t u (by omega) (by omega) (by omega) a
end
end Go.Abs.U48
