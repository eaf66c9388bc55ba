import Derived.Test.YtljahlbklgnfhaaGreatDoorA39
import Derived.Test.YtljahlbklgnfhaaGreatDoorA28
import Derived.Test.YtljahlbklgnfhaaGreatDoorD1
import Derived.Lib.IndexAny
import Derived.Lib.IndexBytes
import Derived.Lib.IndexLaws
import Derived.Lib.TrimUEq
import Derived.Lib.SplitLaws
import Derived.Test.YtljahlbklgnfhaaGreatDoorAK
set_option linter.unusedVariables false
set_option linter.unusedSimpArgs false
set_option linter.defProp false
namespace Go.Abs.U48
open Go Go.Proofs
mutual
def nW:Word→Nat
 | ⟨_,_,_,ws,cs⟩=>1+nWs ws+nCs cs
def nWs:List Word→Nat
 | []=>0
 | w::r=>nW w+nWs r
def nC:Cmd→Nat
 | ⟨_,_,_,ws,rs,ks⟩=>1+nWs ws+nCs ks+nRs rs
def nCs:List Cmd→Nat
 | []=>0
 | c::r=>nC c+nCs r
def nR:Redir→Nat
 | ⟨_,_,_,w,_⟩=>nW w
def nRs:List Redir→Nat
 | []=>0
 | r::s=>nR r+nRs s
end
theorem Q5x(w:Word):nW w=1+nWs w.words_+nCs w.cmd_:=by obtain⟨_,_,_,ws,cs⟩:=w;rw[nW]
theorem Q3d(c:Cmd):nC c=1+nWs c.words_+nCs c.kids_+nRs c.redirs_:=by obtain⟨_,_,_,ws,rs,ks⟩:=c;rw[nC]
theorem Z2t(r:Redir):nR r=nW r.word_:=by obtain⟨_,_,_,w,_⟩:=r;rw[nR]
mutual
def okW:Word→Prop
 | ⟨_,t,q,ws,cs⟩=>t.length≤maxLen∧q.length≤maxLen∧ws.length≤maxLen∧cs.length≤maxLen∧okWs ws∧okCs cs
def okWs:List Word→Prop
 | []=>True
 | w::r=>okW w∧okWs r
def okC:Cmd→Prop
 | ⟨_,_,nm,ws,rs,ks⟩=>nm.length≤maxLen∧ws.length≤maxLen∧rs.length≤maxLen∧ks.length≤maxLen∧okWs ws∧okRs rs∧okCs ks
def okCs:List Cmd→Prop
 | []=>True
 | c::r=>okC c∧okCs r
def okR:Redir→Prop
 | ⟨_,_,_,w,_⟩=>okW w
def okRs:List Redir→Prop
 | []=>True
 | r::s=>okR r∧okRs s
end
mutual
def smW:Word→Prop
 | ⟨_,t,q,ws,cs⟩=>t.length≤2000∧q.length≤2000∧smWs ws∧smCs cs
def smWs:List Word→Prop
 | []=>True
 | w::r=>smW w∧smWs r
def smC:Cmd→Prop
 | ⟨_,_,nm,ws,rs,ks⟩=>nm.length≤2000∧rs.length≤2000∧smWs ws∧smRs rs∧smCs ks
def smCs:List Cmd→Prop
 | []=>True
 | c::r=>smC c∧smCs r
def smR:Redir→Prop
 | ⟨_,_,_,w,_⟩=>smW w
def smRs:List Redir→Prop
 | []=>True
 | r::s=>smR r∧smRs s
end
theorem Q0c{α:Type}(x y:α):(bif true then x else y)=x:=rfl
theorem Q0b{α:Type}(x y:α):(bif false then x else y)=y:=rfl
end Go.Abs.U48
namespace Go.Abs.U48
open Go Go.Proofs
def sumL{α:Type}(f:α→Nat):List α→Nat
 | []=>0
 | x::r=>f x+sumL f r
def maxL{α:Type}(f:α→Nat):List α→Nat
 | []=>0
 | x::r=>max (f x) (maxL f r)
theorem Z3b{α R:Type}(f:α→Nat)(w:α→Option Int)(fin:Int→Option R):∀ (l:List α) (i:Int) (s:Nat),(∀x∈l,w x=some (f x:Int))→s+sumL f l≤1000000→
 Q6z (fun u _ k (s:Int)=>(w u).bind fun r=>k (IntKind.wrap .i64 (s+r))) fin l i (s:Int)=fin ((s+sumL f l:Nat):Int)
 | [],i,s,_,_=>by rw[Q6z,sumL];rfl
 | x::r,i,s,hw,hb=>by
   rw[sumL]at hb
   rw[Q6z,hw x (by simp),Option.bind_some,Q0o (by omega) (by omega),show(s:Int)+(f x:Int)=((s+f x:Nat):Int)by omega,Z3b f w fin r (i+1) (s+f x) (fun y hy=>hw y (by simp[hy])) (by omega),sumL]
   congr 2
   omega
theorem Z0k(a b:Nat):imax (a:Int) (b:Int)=((max a b:Nat):Int):=by
 unfold imax
 split<;>omega
theorem Q6m{α R:Type}(f:α→Nat)(w:α→Option Int)(fin:Int→Option R):∀ (l:List α) (i:Int) (s:Nat),(∀x∈l,w x=some (f x:Int))→
 Q6z (fun u _ k (s:Int)=>(w u).bind fun r=>k (imax s r)) fin l i (s:Int)=fin ((max s (maxL f l):Nat):Int)
 | [],i,s,_=>by rw[Q6z,maxL,Nat.max_zero]
 | x::r,i,s,hw=>by
   rw[Q6z,hw x (by simp),Option.bind_some,Z0k,Q6m f w fin r (i+1) (max s (f x)) (fun y hy=>hw y (by simp[hy])),maxL,Nat.max_assoc]
theorem J4c{α:Type}(p:α→Bool)(w:α→Option Bool):∀ (l:List α) (i:Nat),(∀x∈l,w x=some (p x))→
 ∃r:Int,Z0g (fun u i k=>(w u).bind fun r=>bif r then some i else k) (some (-1)) l (i:Int)=some r∧decide (0≤r)=l.any p
 | [],i,_=>⟨-1,rfl,rfl⟩
 | x::r,i,hw=>by
   rw[Z0g,hw x (by simp),Option.bind_some,List.any_cons]
   cases p x with
   | true=>exact⟨i,rfl,by rw[decide_eq_true (by omega)];rfl⟩
   | false=>exact J4c p w r (i+1) (fun y hy=>hw y (by simp[hy]))
theorem Z8c{α:Type}(p:α→Bool)(w:α→Option Bool)(fin:Bool):∀ (l:List α) (i:Int),(∀x∈l,w x=some (p x))→
 Z0g (fun u _ k=>(w u).bind fun r=>bif !r then some false else k) (some fin) l i=some (l.all p&&fin)
 | [],i,_=>by rw[Z0g];rfl
 | x::r,i,hw=>by
   rw[Z0g,hw x (by simp),Option.bind_some,List.all_cons]
   cases p x with
   | true=>rw[Bool.not_true,Q0b,Z8c p w fin r (i+1) (fun y hy=>hw y (by simp[hy])),Bool.true_and]
   | false=>rfl
def hasW(r:Redir):Bool:=!decide (r.kind_=5)&&!decide (r.kind_=6)
mutual
def szW:Word→Nat
 | ⟨_,_,_,ws,cs⟩=>1+szWs ws+szCs cs
def szWs:List Word→Nat
 | []=>0
 | w::r=>szW w+szWs r
def szC:Cmd→Nat
 | ⟨_,_,_,ws,rs,ks⟩=>1+rs.length+szCs ks+szWs ws+szRs rs
def szCs:List Cmd→Nat
 | []=>0
 | c::r=>szC c+szCs r
def szR:Redir→Nat
 | ⟨k,_,_,w,_⟩=>bif !decide (k=5)&&!decide (k=6)then szW w else 0
def szRs:List Redir→Nat
 | []=>0
 | r::s=>szR r+szRs s
end
theorem X5r(w:Word):szW w=1+szWs w.words_+szCs w.cmd_:=by obtain⟨_,_,_,ws,cs⟩:=w;rw[szW]
theorem J7x(c:Cmd):szC c=1+c.redirs_.length+szCs c.kids_+szWs c.words_+szRs c.redirs_:=by obtain⟨_,_,_,ws,rs,ks⟩:=c;rw[szC]
theorem X5s(r:Redir):szR r=bif hasW r then szW r.word_ else 0:=by obtain⟨_,_,_,w,_⟩:=r;rw[szR,hasW]
theorem Q9w:∀l,szWs l=sumL szW l
 | []=>by rw[szWs];rfl
 | x::r=>by rw[szWs,Q9w r];rfl
theorem Z2w:∀l,szCs l=sumL szC l
 | []=>by rw[szCs];rfl
 | x::r=>by rw[szCs,Z2w r];rfl
theorem Z7q:∀l,szRs l=sumL szR l
 | []=>by rw[szRs];rfl
 | x::r=>by rw[szRs,Z7q r];rfl
mutual
theorem X5q:∀w:Word,szW w+3≤4 * nW w
 | ⟨_,_,_,ws,cs⟩=>by
   have:=Z7p ws
   have:=Q9c cs
   rw[szW,nW]
   omega
theorem Z7p:∀l:List Word,szWs l≤4 * nWs l
 | []=>by rw[szWs];omega
 | w::r=>by
   have:=X5q w
   have:=Z7p r
   rw[szWs,nWs]
   omega
theorem K1o:∀c:Cmd,szC c+3≤4 * nC c
 | ⟨_,_,_,ws,rs,ks⟩=>by
   have:=Z7p ws
   have:=Q9c ks
   have:=J7w rs
   rw[szC,nC]
   omega
theorem Q9c:∀l:List Cmd,szCs l≤4 * nCs l
 | []=>by rw[szCs];omega
 | c::r=>by
   have:=K1o c
   have:=Q9c r
   rw[szCs,nCs]
   omega
theorem K1n:∀r:Redir,szR r+1≤4 * nR r
 | ⟨k,_,_,w,_⟩=>by
   have:=X5q w
   rw[szR,nR]
   cases(!decide (k=5)&&!decide (k=6))
   ·show 0+1≤_
    omega
   show szW w+1≤_
   omega
theorem J7w:∀l:List Redir,szRs l+l.length≤4 * nRs l
 | []=>by rw[szRs];simp
 | r::s=>by
   have:=K1n r
   have:=J7w s
   rw[szRs,nRs,List.length_cons]
   omega
end
theorem Q6k:∀l:List Word,l.length≤nWs l
 | []=>by rw[nWs];simp
 | w::r=>by
   have:=Q6k r
   rw[nWs,Q5x,List.length_cons]
   omega
theorem Q6l:∀l:List Cmd,l.length≤nCs l
 | []=>by rw[nCs];simp
 | w::r=>by
   have:=Q6l r
   rw[nCs,Q3d,List.length_cons]
   omega
theorem Q9f:∀l:List Redir,l.length≤nRs l
 | []=>by rw[nRs];simp
 | w::r=>by
   have:=Q9f r
   rw[nRs,Z2t,Q5x,List.length_cons]
   omega
theorem Q5w:∀ {l:List Word} {w:Word},w∈l→nW w≤nWs l
 | x::r,w,h=>by
   rw[nWs]
   rcases List.mem_cons.1 h with rfl|h
   ·omega
   have:=Q5w h
   omega
theorem Q7h:∀ {l:List Cmd} {w:Cmd},w∈l→nC w≤nCs l
 | x::r,w,h=>by
   rw[nCs]
   rcases List.mem_cons.1 h with rfl|h
   ·omega
   have:=Q7h h
   omega
theorem Z0e:∀ {l:List Redir} {w:Redir},w∈l→nR w≤nRs l
 | x::r,w,h=>by
   rw[nRs]
   rcases List.mem_cons.1 h with rfl|h
   ·omega
   have:=Z0e h
   omega
theorem J8b{l:List Word}:sumL szW l≤4 * nWs l:=by rw[←Q9w];exact Z7p l
theorem J8c{l:List Cmd}:sumL szC l≤4 * nCs l:=by rw[←Z2w];exact Q9c l
theorem w15r{R:Type}(w31:Word→Option Int)(again5:Int×Int→Option R)(i4:Int):∀ (l:List Redir) (i:Int) (s:Nat),(∀r∈l,w31 r.word_=some (szW r.word_:Int))→s+sumL szR l≤1000000→
 Q6z (fun(u:Redir) _ k (s:Int)=>(F32 u).bind fun r36=>bif r36 then(w31 u.word_).bind fun r40=>k (IntKind.wrap .i64 (s+r40))else k s) (fun s=>again5 (s,i4)) l i (s:Int)=again5 (((s+sumL szR l:Nat):Int),i4)
 | [],i,s,_,_=>rfl
 | x::r,i,s,hw,hb=>by
   rw[sumL]at hb
   have ih:=fun t ht=>w15r w31 again5 i4 r (i+1) t (fun y hy=>hw y (by simp[hy])) ht
   have hx:=hw x (by simp)
   have hR:=X5s x
   rw[Q6z,F32,Option.bind_some]
   rw[show(!decide (x.kind_=5)&&!decide (x.kind_=6))=hasW x from rfl]
   cases hh:hasW x with
   | true=>
     rw[hh,Q0c]at hR
     rw[Q0c,hx,Option.bind_some,Q0o (by omega) (by omega),show(s:Int)+(szW x.word_:Int)=((s+szW x.word_:Nat):Int)by omega,ih _ (by omega),sumL,hR,Nat.add_assoc]
   | false=>
     rw[hh,Q0b]at hR
     rw[Q0b,ih _ (by omega),sumL,hR,Nat.zero_add]
theorem J8n:∀n:Nat,(∀w:Word,nW w<n→nW w≤40000→K31 n w=some (szW w:Int))∧(∀l:List Cmd,nCs l<n→nCs l≤40000→K15 n l=some (szCs l:Int))
 | 0=>⟨fun _ h=>by omega,fun _ h=>by omega⟩
 | n+1=>by
   obtain⟨ihW,ihC⟩:=J8n n
   refine⟨fun w hn hb=>?_,fun l hn hb=>?_⟩
   ·show F31 (K15 n) (K31 n) w=_
    have hnW:=Q5x w
    have hl:=Q6k w.words_
    have hs:=J8b (l:=w.words_)
    have hs2:=Q9c w.cmd_
    rw[F31,ihC w.cmd_ (by omega) (by omega),Option.bind_some,Q0o (by omega) (by omega),show(1:Int)+(szCs w.cmd_:Int)=((1+szCs w.cmd_:Nat):Int)by omega]
    rw[Q1g (body:=X2g w (K31 n)) w.words_ (fun u _ k (s:Int)=>(K31 n u).bind fun r=>k (IntKind.wrap .i64 (s+r))) (fun s=>some s) (fun _ _ _=>rfl) (by omega)]
    rw[Z3b szW (K31 n) _ w.words_ 0 (1+szCs w.cmd_) (fun x hx=>ihW x (by have:=Q5w hx;omega) (by have:=Q5w hx;omega)) (by omega),X5r,Q9w]
    congr 2
    omega
   show F15 (K15 n) (K31 n) l=_
   have hl:=Q6l l
   have hs:=J8c (l:=l)
   rw[F15]
   have body:∀u∈l,∀ (again5:Int×Int→Option Int) (i4:Int) (s:Nat),s+szC u≤1000000→((K15 n u.kids_).bind fun r12=>iter (J5p u (K31 n) again5 i4) BIG (IntKind.wrap .i64 ((s:Int)+(IntKind.wrap .i64 ((IntKind.wrap .i64 (1+(u.redirs_.length:Int)))+r12))),0))=again5 (((s+szC u:Nat):Int),IntKind.wrap .i64 (i4+1)):=by
    intro u hu again5 i4 s hsb
    have h1:=Q7h hu
    have h2:=Q3d u
    have h3:=J7x u
    have h4:=Q6k u.words_
    have h5:=Q9f u.redirs_
    have h6:=Q9c u.kids_
    have h7:=Z7q u.redirs_
    have h8:=Q9w u.words_
    rw[ihC u.kids_ (by omega) (by omega),Option.bind_some,Q0o (n:=1+(u.redirs_.length:Int)) (by omega) (by omega),Q0o (n:=1+(u.redirs_.length:Int)+(szCs u.kids_:Int)) (by omega) (by omega),Q0o (by omega) (by omega),
     show(s:Int)+(1+(u.redirs_.length:Int)+(szCs u.kids_:Int))=((s+(1+u.redirs_.length+szCs u.kids_):Nat):Int)by omega]
    rw[Q1g (body:=J5p u (K31 n) again5 i4) u.words_ (fun v _ k (s:Int)=>(K31 n v).bind fun r=>k (IntKind.wrap .i64 (s+r))) (fun s=>iter (J1j u (K31 n) again5 i4) BIG (s,0)) (fun _ _ _=>rfl) (by omega)]
    rw[Z3b szW (K31 n) _ u.words_ 0 _ (fun x hx=>ihW x (by have:=Q5w hx;omega) (by have:=Q5w hx;omega)) (by omega)]
    rw[Q1g (body:=J1j u (K31 n) again5 i4) u.redirs_ (fun(v:Redir) _ k (s:Int)=>(F32 v).bind fun r36=>bif r36 then(K31 n v.word_).bind fun r40=>k (IntKind.wrap .i64 (s+r40))else k s) (fun s=>again5 (s,IntKind.wrap .i64 (i4+1))) (fun again i s=>by rw[J1j]) (by omega)]
    rw[w15r (K31 n) again5 _ u.redirs_ 0 _ (fun r hr=>ihW r.word_ (by have:=Z0e hr;have:=Z2t r;omega) (by have:=Z0e hr;have:=Z2t r;omega)) (by omega)]
    congr 3
    omega
   have main:∀ (m j:Nat) (s:Nat),j≤l.length→l.length-j<m→s+sumL szC (l.drop j)≤1000000→iter (Z7h l (K15 n) (K31 n)) m ((s:Int),(j:Int))=some ((s+sumL szC (l.drop j):Nat):Int):=by
    intro m
    induction m with
    | zero=>intro j s hj h;omega
    | succ m ih=>
      intro j s hj hm hsb
      show Z7h l (K15 n) (K31 n) (iter (Z7h l (K15 n) (K31 n)) m) ((s:Int),(j:Int))=_
      rw[Z7h]
      by_cases hc:j<l.length
      ·rw[Q7r hc,sumL]at hsb
       rw[decide_eq_true (by omega),Q0c,Z4b hc,Option.bind_some,body _ (List.getElem_mem hc) _ _ s (by omega),Q0o (by omega) (by omega)]
       have:=ih (j+1) (s+szC l[j]) (by omega) (by omega) (by omega)
       rw[Q7r hc,sumL,←Nat.add_assoc,←this]
       rfl
      rw[decide_eq_false (by omega),Q0b,List.drop_eq_nil_of_le (by omega)]
      rfl
   have:=main BIG 0 0 (Nat.zero_le _) (by unfold BIG;omega) (by rw[List.drop_zero];omega)
   rw[List.drop_zero,Nat.zero_add,←Z2w]at this
   exact this
theorem J0k{α R:Type}(f g:α→Nat)(w v:α→Option Int)(fin:Int→Option R):∀ (l:List α) (i:Int) (s:Nat),(∀x∈l,w x=some (f x:Int)∧v x=some (g x:Int))→s+sumL (fun x=>f x+g x) l≤1000000→
 Q6z (fun u _ k (s:Int)=>(w u).bind fun r=>(v u).bind fun q=>k (IntKind.wrap .i64 (IntKind.wrap .i64 (s+r)+q))) fin l i (s:Int)=fin ((s+sumL (fun x=>f x+g x) l:Nat):Int)
 | [],i,s,_,_=>by rw[Q6z,sumL];rfl
 | x::r,i,s,hw,hb=>by
   rw[sumL]at hb
   rw[Q6z,(hw x (by simp)).1,Option.bind_some,(hw x (by simp)).2,Option.bind_some,Q0o (n:=(s:Int)+(f x:Int)) (by omega) (by omega),Q0o (by omega) (by omega),show(s:Int)+(f x:Int)+(g x:Int)=((s+(f x+g x):Nat):Int)by omega,J0k f g w v fin r (i+1) _ (fun y hy=>hw y (by simp[hy])) (by omega),sumL]
   congr 2
   omega
theorem J1f(d:Redir):F34 d=some (bif hasW d then[d.word_]else[]):=by
 rw[F34,hasW]
 cases decide (d.kind_=5)<;>cases decide (d.kind_=6)<;>rfl
theorem V3v(r:Redir):szWs (bif hasW r then[r.word_]else[])=szR r:=by
 rw[X5s]
 cases hasW r
 ·rw[Q0b,Q0b,szWs]
 rw[Q0c,Q0c,szWs,szWs,Nat.add_zero]
theorem nR_t(r:Redir):nWs (bif hasW r then[r.word_]else[])≤nR r:=by
 rw[Z2t]
 cases hasW r
 ·rw[Q0b,nWs];omega
 rw[Q0c,nWs,nWs];omega
theorem J3q{α:Type}(f:α→Nat)(h:α→Nat)(e:∀x,f x=1+h x):∀l:List α,sumL f l=l.length+sumL h l
 | []=>rfl
 | x::r=>by rw[sumL,sumL,J3q f h e r,e,List.length_cons];omega
theorem J3t:∀n:Nat,(∀l:List Word,nWs l<n→nWs l≤40000→K33 n l=some (szWs l:Int))∧(∀l:List Cmd,nCs l<n→nCs l≤40000→K16 n l=some (szCs l:Int))
 | 0=>⟨fun _ h=>by omega,fun _ h=>by omega⟩
 | n+1=>by
   obtain⟨ihW,ihC⟩:=J3t n
   refine⟨fun l hn hb=>?_,fun l hn hb=>?_⟩
   ·show F33 (K16 n) (K33 n) l=_
    have hl:=Q6k l
    have hs:=J8b (l:=l)
    have he:=J3q szW (fun w=>szWs w.words_+szCs w.cmd_) (fun w=>by rw[X5r];omega) l
    rw[F33,Q1g (body:=X2f l (K33 n) (K16 n)) l (fun u _ k (s:Int)=>(K33 n u.words_).bind fun r=>(K16 n u.cmd_).bind fun q=>k (IntKind.wrap .i64 (IntKind.wrap .i64 (s+r)+q))) (fun s=>some s) (fun _ _ _=>rfl) (by omega)]
    rw[J0k (fun w=>szWs w.words_) (fun w=>szCs w.cmd_) (fun u=>K33 n u.words_) (fun u=>K16 n u.cmd_) _ l 0 l.length (fun x hx=>?_) (by omega),Q9w]
    ·congr 2
     omega
    have h1:=Q5w hx
    have h2:=Q5x x
    exact⟨ihW _ (by omega) (by omega),ihC _ (by omega) (by omega)⟩
   show F16 (K16 n) (K33 n) l=_
   have hl:=Q6l l
   have hs:=J8c (l:=l)
   rw[F16]
   have body:∀u∈l,∀ (again5:Int×Int→Option Int) (i4:Int) (s:Nat),s+szC u≤1000000→((K33 n u.words_).bind fun r12=>(K16 n u.kids_).bind fun r15=>iter (J5o u (K33 n) again5 i4) BIG (IntKind.wrap .i64 ((IntKind.wrap .i64 ((IntKind.wrap .i64 ((s:Int)+r12))+r15))+(u.redirs_.length:Int)),0))=again5 (((s+(szC u-1):Nat):Int),IntKind.wrap .i64 (i4+1)):=by
    intro u hu again5 i4 s hsb
    have h1:=Q7h hu
    have h2:=Q3d u
    have h3:=J7x u
    have h5:=Q9f u.redirs_
    have h6:=Q9c u.kids_
    have h7:=Z7q u.redirs_
    rw[ihW u.words_ (by omega) (by omega),Option.bind_some,ihC u.kids_ (by omega) (by omega),Option.bind_some,Q0o (n:=(s:Int)+(szWs u.words_:Int)) (by omega) (by omega),Q0o (n:=(s:Int)+(szWs u.words_:Int)+(szCs u.kids_:Int)) (by omega) (by omega),Q0o (by omega) (by omega),
     show(s:Int)+(szWs u.words_:Int)+(szCs u.kids_:Int)+(u.redirs_.length:Int)=((s+szWs u.words_+szCs u.kids_+u.redirs_.length:Nat):Int)by omega]
    rw[Q1g (body:=J5o u (K33 n) again5 i4) u.redirs_ (fun(v:Redir) _ k (s:Int)=>(F34 v).bind fun r27=>(K33 n r27).bind fun r=>k (IntKind.wrap .i64 (s+r))) (fun s=>again5 (s,IntKind.wrap .i64 (i4+1))) (fun _ _ _=>rfl) (by omega)]
    have e:(fun(v:Redir) (_:Int) (k:Int→Option Int) (s:Int)=>(F34 v).bind fun r27=>(K33 n r27).bind fun r=>k (IntKind.wrap .i64 (s+r)))=(fun(v:Redir) (_:Int) (k:Int→Option Int) (s:Int)=>((F34 v).bind (K33 n)).bind fun r=>k (IntKind.wrap .i64 (s+r))):=by
     funext v i k s
     rw[J1f]
     rfl
    rw[e,Z3b szR (fun v=>(F34 v).bind (K33 n)) _ u.redirs_ 0 _ (fun x hx=>?_) (by omega)]
    ·congr 3
     omega
    have h8:=Z0e hx
    have h9:=nR_t x
    rw[J1f,Option.bind_some,ihW _ (by omega) (by omega),V3v]
   have main:∀ (m j:Nat) (s:Nat),j≤l.length→l.length-j<m→s+sumL szC (l.drop j)≤1000000→iter (Z7g l (K33 n) (K16 n)) m ((s:Int),(j:Int))=some ((s+(sumL szC (l.drop j)-(l.length-j)):Nat):Int)∧l.length-j≤sumL szC (l.drop j):=by
    intro m
    induction m with
    | zero=>intro j s hj h;omega
    | succ m ih=>
      intro j s hj hm hsb
      show Z7g l (K33 n) (K16 n) (iter (Z7g l (K33 n) (K16 n)) m) ((s:Int),(j:Int))=_∧_
      rw[Z7g]
      by_cases hc:j<l.length
      ·rw[Q7r hc,sumL]at hsb
       rw[decide_eq_true (by omega),Q0c,Z4b hc,Option.bind_some,body _ (List.getElem_mem hc) _ _ s (by omega),Q0o (by omega) (by omega)]
       obtain⟨e1,e2⟩:=ih (j+1) (s+(szC l[j]-1)) (by omega) (by omega) (by omega)
       have h1:=J7x l[j]
       rw[Q7r hc,sumL]
       refine⟨?_,by omega⟩
       rw[show((j:Int)+1)=((j+1:Nat):Int)by omega,e1]
       congr 2
       omega
      rw[decide_eq_false (by omega),Q0b,List.drop_eq_nil_of_le (by omega)]
      refine⟨?_,by omega⟩
      rw[sumL]
      congr 2
      omega
   obtain⟨e1,e2⟩:=main BIG 0 l.length (Nat.zero_le _) (by unfold BIG;omega) (by rw[List.drop_zero];omega)
   rw[List.drop_zero]at e1 e2
   rw[show((0:Nat):Int)=0 from rfl]at e1
   rw[e1,Z2w]
   congr 2
   omega
mutual
def dW:Word→Nat
 | ⟨_,_,_,ws,cs⟩=>max (dWs ws) (dCs cs)+1
def dWs:List Word→Nat
 | []=>0
 | w::r=>max (dW w) (dWs r)
def dC:Cmd→Nat
 | ⟨_,_,_,ws,rs,ks⟩=>max (max (dCs ks) (dWs ws)) (dRs rs)+1
def dCs:List Cmd→Nat
 | []=>0
 | c::r=>max (dC c) (dCs r)
def dR:Redir→Nat
 | ⟨k,_,_,w,_⟩=>bif !decide (k=5)&&!decide (k=6)then dW w else 0
def dRs:List Redir→Nat
 | []=>0
 | r::s=>max (dR r) (dRs s)
end
theorem V1k(w:Word):dW w=max (dWs w.words_) (dCs w.cmd_)+1:=by obtain⟨_,_,_,ws,cs⟩:=w;rw[dW]
theorem V1m(c:Cmd):dC c=max (max (dCs c.kids_) (dWs c.words_)) (dRs c.redirs_)+1:=by obtain⟨_,_,_,ws,rs,ks⟩:=c;rw[dC]
theorem V1l(r:Redir):dR r=bif hasW r then dW r.word_ else 0:=by obtain⟨_,_,_,w,_⟩:=r;rw[dR,hasW]
theorem Z8m:∀l,dWs l=maxL dW l
 | []=>by rw[dWs];rfl
 | x::r=>by rw[dWs,Z8m r];rfl
theorem Z4n:∀l,dCs l=maxL dC l
 | []=>by rw[dCs];rfl
 | x::r=>by rw[dCs,Z4n r];rfl
theorem J2r:∀l,dRs l=maxL dR l
 | []=>by rw[dRs];rfl
 | x::r=>by rw[dRs,J2r r];rfl
mutual
theorem X4r:∀w:Word,dW w≤nW w
 | ⟨_,_,_,ws,cs⟩=>by
   have:=X0w ws
   have:=X0x cs
   rw[dW,nW]
   omega
theorem X0w:∀l:List Word,dWs l≤nWs l
 | []=>by rw[dWs];omega
 | w::r=>by
   have:=X4r w
   have:=X0w r
   rw[dWs,nWs]
   omega
theorem K0a:∀c:Cmd,dC c≤nC c
 | ⟨_,_,_,ws,rs,ks⟩=>by
   have:=X0w ws
   have:=X0x ks
   have:=X6j rs
   rw[dC,nC]
   omega
theorem X0x:∀l:List Cmd,dCs l≤nCs l
 | []=>by rw[dCs];omega
 | c::r=>by
   have:=K0a c
   have:=X0x r
   rw[dCs,nCs]
   omega
theorem V9t:∀r:Redir,dR r≤nR r
 | ⟨k,_,_,w,_⟩=>by
   have:=X4r w
   rw[dR,nR]
   cases(!decide (k=5)&&!decide (k=6))
   ·exact Nat.zero_le _
   exact this
theorem X6j:∀l:List Redir,dRs l≤nRs l
 | []=>by rw[dRs];omega
 | r::s=>by
   have:=V9t r
   have:=X6j s
   rw[dRs,nRs]
   omega
end
theorem w51r{R:Type}(w86:Word→Option Int)(fin:Int→Option R):∀ (l:List Redir) (i:Int) (s:Nat),(∀r∈l,w86 r.word_=some (dW r.word_:Int))→
 Q6z (fun(u:Redir) _ k (s:Int)=>(F32 u).bind fun r36=>bif r36 then(w86 u.word_).bind fun r40=>k (imax s r40)else k s) fin l i (s:Int)=fin ((max s (maxL dR l):Nat):Int)
 | [],i,s,_=>by rw[Q6z,maxL,Nat.max_zero]
 | x::r,i,s,hw=>by
   have ih:=fun t=>w51r w86 fin r (i+1) t (fun y hy=>hw y (by simp[hy]))
   have hx:=hw x (by simp)
   have hR:=V1l x
   rw[Q6z,F32,Option.bind_some,maxL]
   rw[show(!decide (x.kind_=5)&&!decide (x.kind_=6))=hasW x from rfl]
   cases hh:hasW x with
   | true=>
     rw[hh,Q0c]at hR
     rw[Q0c,hx,Option.bind_some,Z0k,ih,hR,Nat.max_assoc]
   | false=>
     rw[hh,Q0b]at hR
     rw[Q0b,ih,hR,Nat.zero_max]
theorem J4m:∀n:Nat,(∀w:Word,nW w<n→nW w≤40000→K86 n w=some (dW w:Int))∧(∀c:Cmd,nC c<n→nC c≤40000→K51 n c=some (dC c:Int))
 | 0=>⟨fun _ h=>by omega,fun _ h=>by omega⟩
 | n+1=>by
   obtain⟨ihW,ihC⟩:=J4m n
   refine⟨fun w hn hb=>?_,fun c hn hb=>?_⟩
   ·show F86 (K51 n) (K86 n) w=_
    have h1:=Q5x w
    have h2:=Q6k w.words_
    have h3:=Q6l w.cmd_
    have h4:=X4r w
    rw[F86,Q1g (body:=X1z w (K86 n) (K51 n)) w.words_ (fun v _ k (s:Int)=>(K86 n v).bind fun r=>k (imax s r)) (fun s=>iter (J5a w (K51 n)) BIG (s,0)) (fun _ _ _=>rfl) (by omega)]
    rw[show(0:Int)=((0:Nat):Int) from rfl,Q6m dW (K86 n) _ w.words_ _ 0 (fun x hx=>ihW x (by have:=Q5w hx;omega) (by have:=Q5w hx;omega))]
    rw[show((0:Nat):Int)=0 from rfl,Q1g (body:=J5a w (K51 n)) w.cmd_ (fun v _ k (s:Int)=>(K51 n v).bind fun r=>k (imax s r)) (fun s=>some (IntKind.wrap .i64 (s+1))) (fun _ _ _=>rfl) (by omega)]
    rw[Q6m dC (K51 n) _ w.cmd_ _ _ (fun x hx=>ihC x (by have:=Q7h hx;omega) (by have:=Q7h hx;omega))]
    have h5:=V1k w
    rw[Z8m,Z4n]at h5
    rw[Q0o (by omega) (by omega)]
    congr 1
    omega
   show F51 (K51 n) (K86 n) c=_
   have h1:=Q3d c
   have h2:=Q6k c.words_
   have h3:=Q6l c.kids_
   have h6:=Q9f c.redirs_
   have h4:=K0a c
   rw[F51,Q1g (body:=X2d c (K51 n) (K86 n)) c.kids_ (fun v _ k (s:Int)=>(K51 n v).bind fun r=>k (imax s r)) (fun s=>iter (J5f c (K86 n)) BIG (s,0)) (fun _ _ _=>rfl) (by omega)]
   rw[show(0:Int)=((0:Nat):Int) from rfl,Q6m dC (K51 n) _ c.kids_ _ 0 (fun x hx=>ihC x (by have:=Q7h hx;omega) (by have:=Q7h hx;omega))]
   rw[show((0:Nat):Int)=0 from rfl,Q1g (body:=J5f c (K86 n)) c.words_ (fun v _ k (s:Int)=>(K86 n v).bind fun r=>k (imax s r)) (fun s=>iter (J1e c (K86 n)) BIG (s,0)) (fun _ _ _=>rfl) (by omega)]
   rw[Q6m dW (K86 n) _ c.words_ _ _ (fun x hx=>ihW x (by have:=Q5w hx;omega) (by have:=Q5w hx;omega))]
   rw[Q1g (body:=J1e c (K86 n)) c.redirs_ (fun(v:Redir) _ k (s:Int)=>(F32 v).bind fun r36=>bif r36 then(K86 n v.word_).bind fun r40=>k (imax s r40)else k s) (fun s=>some (IntKind.wrap .i64 (s+1))) (fun again i s=>by rw[J1e]) (by omega)]
   rw[w51r (K86 n) _ c.redirs_ _ _ (fun r hr=>ihW r.word_ (by have:=Z0e hr;have:=Z2t r;omega) (by have:=Z0e hr;have:=Z2t r;omega))]
   have h5:=V1m c
   rw[Z8m,Z4n,J2r]at h5
   rw[Q0o (by omega) (by omega)]
   congr 1
   omega
theorem dR_t(r:Redir):dWs (bif hasW r then[r.word_]else[])=dR r:=by
 rw[V1l]
 cases hasW r
 ·rw[Q0b,Q0b,dWs]
 rw[Q0c,Q0c,dWs,dWs,Nat.max_zero]
theorem Z9p:∀n:Nat,(∀l:List Word,nWs l<n→nWs l≤40000→K61 n l=some (dWs l:Int))∧(∀l:List Cmd,nCs l<n→nCs l≤40000→K25 n l=some (dCs l:Int))
 | 0=>⟨fun _ h=>by omega,fun _ h=>by omega⟩
 | n+1=>by
   obtain⟨ihW,ihC⟩:=Z9p n
   refine⟨fun l hn hb=>?_,fun l hn hb=>?_⟩
   ·show F61 (K25 n) (K61 n) l=_
    have hl:=Q6k l
    rw[F61,Q1g (body:=X2c l (K61 n) (K25 n)) l (fun u _ k (s:Int)=>(K61 n u.words_).bind fun r=>(K25 n u.cmd_).bind fun q=>k (imax s (IntKind.wrap .i64 (1+(imax r q))))) (fun s=>some s) (fun _ _ _=>rfl) (by omega)]
    have e:(fun(u:Word) (_:Int) (k:Int→Option Int) (s:Int)=>(K61 n u.words_).bind fun r=>(K25 n u.cmd_).bind fun q=>k (imax s (IntKind.wrap .i64 (1+(imax r q)))))=(fun(u:Word) (_:Int) (k:Int→Option Int) (s:Int)=>((K61 n u.words_).bind fun r=>(K25 n u.cmd_).bind fun q=>some (IntKind.wrap .i64 (1+(imax r q)))).bind fun r=>k (imax s r)):=by
     funext u i k s
     rw[Option.bind_assoc]
     congr 1
     funext r
     rw[Option.bind_assoc]
     rfl
    rw[e,show(0:Int)=((0:Nat):Int) from rfl,Q6m dW _ _ l _ 0 (fun x hx=>?_),Nat.zero_max,Z8m]
    have h1:=Q5w hx
    have h2:=Q5x x
    have h3:=X4r x
    have h4:=V1k x
    rw[ihW _ (by omega) (by omega),Option.bind_some,ihC _ (by omega) (by omega),Option.bind_some,Z0k,Q0o (by omega) (by omega)]
    congr 1
    omega
   show F25 (K25 n) (K61 n) l=_
   have hl:=Q6l l
   rw[F25]
   have body:∀u∈l,∀ (again5:Int×Int→Option Int) (i4:Int) (s:Nat),((K61 n u.words_).bind fun r12=>(K25 n u.kids_).bind fun r15=>iter (J5i u (K61 n) again5 (s:Int) i4) BIG (imax r12 r15,0))=again5 (((max s (dC u):Nat):Int),IntKind.wrap .i64 (i4+1)):=by
    intro u hu again5 i4 s
    have h1:=Q7h hu
    have h2:=Q3d u
    have h3:=V1m u
    have h5:=Q9f u.redirs_
    have h6:=K0a u
    rw[ihW u.words_ (by omega) (by omega),Option.bind_some,ihC u.kids_ (by omega) (by omega),Option.bind_some,Z0k]
    rw[Q1g (body:=J5i u (K61 n) again5 (s:Int) i4) u.redirs_ (fun(v:Redir) _ k (s:Int)=>(F34 v).bind fun r27=>(K61 n r27).bind fun r=>k (imax s r)) (fun d=>again5 (imax (s:Int) (IntKind.wrap .i64 (1+d)),IntKind.wrap .i64 (i4+1))) (fun _ _ _=>rfl) (by omega)]
    have e:(fun(v:Redir) (_:Int) (k:Int→Option Int) (s:Int)=>(F34 v).bind fun r27=>(K61 n r27).bind fun r=>k (imax s r))=(fun(v:Redir) (_:Int) (k:Int→Option Int) (s:Int)=>((F34 v).bind (K61 n)).bind fun r=>k (imax s r)):=by
     funext v i k s
     rw[J1f]
     rfl
    rw[e,Q6m dR (fun v=>(F34 v).bind (K61 n)) _ u.redirs_ 0 _ (fun x hx=>?_)]
    ·rw[J2r]at h3
     rw[Q0o (by omega) (by omega),show(1:Int)+((max (max (dWs u.words_) (dCs u.kids_)) (maxL dR u.redirs_):Nat):Int)=((dC u:Nat):Int)by omega,Z0k]
    have h8:=Z0e hx
    have h9:=nR_t x
    rw[J1f,Option.bind_some,ihW _ (by omega) (by omega),dR_t]
   have main:∀ (m j:Nat) (s:Nat),j≤l.length→l.length-j<m→iter (Z7b l (K61 n) (K25 n)) m ((s:Int),(j:Int))=some ((max s (maxL dC (l.drop j)):Nat):Int):=by
    intro m
    induction m with
    | zero=>intro j s hj h;omega
    | succ m ih=>
      intro j s hj hm
      show Z7b l (K61 n) (K25 n) (iter (Z7b l (K61 n) (K25 n)) m) ((s:Int),(j:Int))=_
      rw[Z7b]
      by_cases hc:j<l.length
      ·rw[decide_eq_true (by omega),Q0c,Z4b hc,Option.bind_some,body _ (List.getElem_mem hc) _ _ s,Q0o (by omega) (by omega)]
       have e1:=ih (j+1) (max s (dC l[j])) (by omega) (by omega)
       rw[Q7r hc,maxL]
       rw[show((j:Int)+1)=((j+1:Nat):Int)by omega,e1,Nat.max_assoc]
      rw[decide_eq_false (by omega),Q0b,List.drop_eq_nil_of_le (by omega),maxL,Nat.max_zero]
   have e1:=main BIG 0 0 (Nat.zero_le _) (by unfold BIG;omega)
   rw[List.drop_zero,Nat.zero_max,←Z4n]at e1
   exact e1
theorem J9m{α:Type}(f:α→Nat)(b:Nat):∀l:List α,decide (maxL f l≤b)=!(l.any fun x=>decide (b<f x))
 | []=>by rw[maxL];simp
 | x::r=>by
   rw[maxL,List.any_cons,Bool.not_or,←J9m f b r]
   by_cases h1:b<f x
   ·rw[decide_eq_true h1,decide_eq_false (by omega)];rfl
   rw[decide_eq_false h1]
   show _=(true&&_)
   rw[Bool.true_and]
   congr 1
   exact propext ⟨fun h=>by omega,fun h=>by omega⟩
theorem V3q(l:List Cmd)(hb:nCs l≤40000):F21 l=some (decide (szCs l≤1024)&&decide (dCs l≤32)):=by
 have hl:=Q6l l
 rw[F21,(J8n BIG).2 l (by unfold BIG;omega) hb,Option.bind_some]
 by_cases h1:szCs l≤1024
 ·rw[decide_eq_true (p:=((szCs l:Int)≤1024)) (by omega),Q0c,decide_eq_true h1,Bool.true_and,F49,F85]
  rw[J6y (body:=X2a l) l (fun u i k=>(F50 u).bind fun r=>bif r then some i else k) (some (-1)) (fun _ _=>rfl) (by omega)]
  obtain⟨r,e1,e2⟩:=J4c (fun c=>decide (32<dC c)) F50 l 0 (fun x hx=>by
   have h2:=Q7h hx
   rw[F50,(J4m BIG).2 x (by unfold BIG;omega) (by omega),Option.bind_some]
   congr 1
   exact decide_eq_decide.2 (by omega))
  rw[show((0:Nat):Int)=0 from rfl]at e1
  rw[e1,Option.bind_some,Option.bind_some,e2,Z4n,J9m]
 rw[decide_eq_false (p:=((szCs l:Int)≤1024)) (by omega),Q0b,decide_eq_false h1,Bool.false_and]
end Go.Abs.U48
namespace Go.Abs.U48
open Go Go.Proofs
def isnc(c:Int):Bool:=((((decide (97≤c)&&decide (c≤122))||(decide (65≤c)&&decide (c≤90)))||(decide (48≤c)&&decide (c≤57)))||decide (c=95))||decide (c=42)
def Q5n(s:Str):Bool:=(s.map B).all isnc&&!decide (s=[])
theorem X2t(s:Str)(hl:s.length≤9223372036854775807):F172 s=some (Q5n s):=by
 rw[F172,Q9g (body:=J3g s) s (fun c _ k=>(some (isnc c)).bind fun r=>bif !r then some false else k) (some (!decide (s=[]))) (fun _ _=>rfl) hl]
 exact Z8c isnc (fun c=>some (isnc c)) _ (s.map B) 0 (fun _ _=>rfl)
theorem X4c(c:Int):(((((decide (c<97)||decide (122<c))&&(decide (c<65)||decide (90<c)))&&(decide (c<48)||decide (57<c)))&&!decide (c=95))&&!decide (c=42))=!isnc c:=by
 have h:∀a b:Int,decide (a<b)=!decide (b≤a):=fun a b=>by
  by_cases h:a<b
  ·rw[decide_eq_true h,decide_eq_false (by omega)];rfl
  rw[decide_eq_false h,decide_eq_true (by omega)];rfl
 rw[isnc,h c 97,h 122 c,h c 65,h 90 c,h c 48,h 57 c]
 simp only[Bool.not_or,Bool.not_and]
theorem J3i(s:Str)(hl:s.length≤9223372036854775807):F144 s=some (Q5n s):=by
 rw[F144,Q9g (body:=Z9c s) s (fun c _ k=>(some (isnc c)).bind fun r=>bif !r then some false else k) (some (!decide (s=[]))) (fun again i=>by
  rw[Z9c]
  simp only[X4c]
  rfl) hl]
 exact Z8c isnc (fun c=>some (isnc c)) _ (s.map B) 0 (fun _ _=>rfl)
def Q2k(q:Str):Bool:=q.contains 49
theorem Z1r(q:Str)(hl:q.length≤9223372036854775807):F171 q=some (Q2k q):=by
 rw[F171,Q9g (body:=J3h q) q (fun c _ k=>bif decide (c=49)then some true else k) (some false) (fun _ _=>rfl) hl]
 have:∀ (q:Str) (i:Int),Z0g (fun(c:Int) _ k=>bif decide (c=49)then some true else k) (some false) (q.map B) i=some (Q2k q):=by
  intro q
  induction q with
  | nil=>intro i;rfl
  | cons c r ih=>
    intro i
    rw[List.map_cons,Z0g,Q2k,List.contains_cons]
    have hb:=Z1i c 49
    rw[show decide (B c=49)=decide (c=49) from hb]
    by_cases h:c=49
    ·subst h;rfl
    rw[decide_eq_false h,Q0b,ih,Q2k]
    have:((49:UInt8)==c)=false:=by rw[beq_eq_false_iff_ne];exact fun e=>h e.symm
    rw[this,Bool.false_or]
 exact this q 0
theorem X0b(q:Str)(c:UInt8):decide (Lib.indexByte q c<0)=!q.contains c:=by
 rw[Lib.contains_iff_indexByte]
 by_cases h:Lib.indexByte q c<0
 ·rw[decide_eq_true h,decide_eq_false (by omega)];rfl
 rw[decide_eq_false h,decide_eq_true (by omega)];rfl
theorem Q8y(q:Str):Q0m q 49=some (Lib.indexByte q 49):=rfl
def keyB(s:Str):Bool:=((((((decide (s=[105,102])||decide (s=[119,104,105,108,101]))||decide (s=[102,111,114]))||decide (s=[115,119,105,116,99,104]))||decide (s=[99,97,115,101]))||decide (s=[102,110]))||decide (s=[126]))
theorem X2p(s:Str):F187 s=some (keyB s):=rfl
theorem contains_cons(b:UInt8)(l sub:Str):Lib.contains (b::l) sub=(sub.isPrefixOf (b::l)||Lib.contains l sub):=by
 unfold Lib.contains
 cases h0:sub.isPrefixOf (b::l)with
 | true=>
   have:Lib.index (b::l) sub=0:=by unfold Lib.index;rw[if_pos h0]
   rw[this];rfl
 | false=>
   rw[Bool.false_or]
   rcases Lib.index_spec l sub with⟨h1,_⟩|⟨i,h1,_⟩
   ·have:Lib.index (b::l) sub=-1:=by unfold Lib.index;rw[h0,h1];rfl
    rw[this,h1]
   have:Lib.index (b::l) sub=i+1:=by
    unfold Lib.index
    rw[h0,h1]
    have:((i:Int)==-1)=false:=by rw[beq_eq_false_iff_ne];omega
    simp[this]
   rw[this,h1,decide_eq_true (by omega),decide_eq_true (by omega)]
theorem contains_nil(b:UInt8)(sub:Str):Lib.contains [] (b::sub)=false:=rfl
theorem X5w:∀ (s w r:Str),(32:UInt8)∉s→(32:UInt8)∉w→List.isPrefixOf (s++[32]) (w++32::r)=decide (s=w)
 | [],[],r,_,_=>by simp[List.isPrefixOf]
 | [],b::w,r,_,hw=>by
   have:¬ (32:UInt8)=b:=fun e=>hw (by simp[e])
   simp[List.isPrefixOf,this]
 | a::s,[],r,hs,_=>by
   have:¬ a=(32:UInt8):=fun e=>hs (by simp[e])
   simp[List.isPrefixOf,this]
 | a::s,b::w,r,hs,hw=>by
   have ih:=X5w s w r (fun h=>hs (by simp[h])) (fun h=>hw (by simp[h]))
   rw[List.cons_append,List.cons_append,List.isPrefixOf,ih]
   by_cases h:a=b
   ·subst h
    simp
   simp[h]
theorem X8n(s:Str):List.isPrefixOf (s++[32]) []=false:=by cases s<;>rfl
theorem X5x(b:UInt8)(x l:Str)(h:((32:UInt8)==b)=false):List.isPrefixOf (32::x) (b::l)=false:=by
 rw[List.isPrefixOf,h,Bool.false_and]
theorem K1w(x l:Str):List.isPrefixOf (32::x) (32::l)=x.isPrefixOf l:=by
 rw[List.isPrefixOf]
 rfl
def kwsB(s:Str):Bool:=decide (s=[105,102])||(decide (s=[110,111,116])||(decide (s=[119,104,105,108,101])||(decide (s=[102,111,114])||(decide (s=[105,110])||(decide (s=[115,119,105,116,99,104])||(decide (s=[99,97,115,101])||(decide (s=[102,110])||decide (s=[126]))))))))
theorem J2k(s:Str)(h:(32:UInt8)∉s):Lib.contains [32,105,102,32,110,111,116,32,119,104,105,108,101,32,102,111,114,32,105,110,32,115,119,105,116,99,104,32,99,97,115,101,32,102,110,32,126,32] (32::(s++[32]))=kwsB s:=by
 have p:=fun(w r:Str) hw=>X5w s w r h hw
 have p1:=p [105,102] [110,111,116,32,119,104,105,108,101,32,102,111,114,32,105,110,32,115,119,105,116,99,104,32,99,97,115,101,32,102,110,32,126,32] (by decide)
 have p2:=p [110,111,116] [119,104,105,108,101,32,102,111,114,32,105,110,32,115,119,105,116,99,104,32,99,97,115,101,32,102,110,32,126,32] (by decide)
 have p3:=p [119,104,105,108,101] [102,111,114,32,105,110,32,115,119,105,116,99,104,32,99,97,115,101,32,102,110,32,126,32] (by decide)
 have p4:=p [102,111,114] [105,110,32,115,119,105,116,99,104,32,99,97,115,101,32,102,110,32,126,32] (by decide)
 have p5:=p [105,110] [115,119,105,116,99,104,32,99,97,115,101,32,102,110,32,126,32] (by decide)
 have p6:=p [115,119,105,116,99,104] [99,97,115,101,32,102,110,32,126,32] (by decide)
 have p7:=p [99,97,115,101] [102,110,32,126,32] (by decide)
 have p8:=p [102,110] [126,32] (by decide)
 have p9:=p [126] [] (by decide)
 simp only[List.cons_append,List.nil_append]at p1 p2 p3 p4 p5 p6 p7 p8 p9
 have e:∀b:UInt8,((32:UInt8)==b)=false→∀l,Lib.contains (b::l) (32::(s++[32]))=Lib.contains l (32::(s++[32])):=fun b hb l=>by rw[contains_cons,X5x b _ l hb,Bool.false_or]
 have e32:∀l,Lib.contains (32::l) (32::(s++[32]))=(List.isPrefixOf (s++[32]) l||Lib.contains l (32::(s++[32]))):=fun l=>by rw[contains_cons,K1w]
 rw[e32,p1,e 105 rfl,e 102 rfl,e32,p2,e 110 rfl,e 111 rfl,e 116 rfl,e32,p3,e 119 rfl,e 104 rfl,e 105 rfl,e 108 rfl,e 101 rfl,e32,p4,e 102 rfl,e 111 rfl,e 114 rfl,e32,p5,e 105 rfl,e 110 rfl,e32,p6,e 115 rfl,e 119 rfl,e 105 rfl,e 116 rfl,e 99 rfl,e 104 rfl,e32,p7,e 99 rfl,e 97 rfl,e 115 rfl,e 101 rfl,e32,p8,e 102 rfl,e 110 rfl,e32,p9,e 126 rfl,e32,X8n,contains_nil,Bool.or_false,Bool.or_false]
 rfl
theorem J9t{s:Str}(h:kwsB s=true):(32:UInt8)∉s∧s≠[]:=by
 simp only[kwsB,Bool.or_eq_true,decide_eq_true_eq]at h
 rcases h with rfl|rfl|rfl|rfl|rfl|rfl|rfl|rfl|rfl<;>decide
theorem Q0f{α:Type}[Inhabited α](x:Option α):Q0e true x=x:=rfl
theorem Q1p{α:Type}[Inhabited α](x:Option α):Q0e false x=some default:=rfl
theorem K1c(s:Str)(hl:s.length≤4000000000):F134 s=some (kwsB s):=by
 rw[F134]
 by_cases h0:s=[]
 ·subst h0
  rfl
 rw[decide_eq_false h0,Bool.not_false]
 show(Q0m s 32).bind _=_
 rw[Q0m,Option.bind_some]
 have hi:=X0b s 32
 rw[show(32:Int).toNat.toUInt8=(32:UInt8) from rfl]
 rw[hi]
 by_cases h1:(32:UInt8)∈s
 ·have:s.contains 32=true:=List.contains_iff_mem.2 h1
  rw[this]
  have h2:kwsB s=false:=by
   cases h:kwsB s
   ·rfl
   exact absurd h1 (J9t h).1
  rw[h2]
  rfl
 have:s.contains 32=false:=by
  cases h:s.contains 32
  ·rfl
  exact absurd (List.contains_iff_mem.1 h) h1
 rw[this]
 show(catO [32] s).bind _=_
 rw[catO,if_pos (by simp;omega),Option.bind_some]
 show(catO ([32]++s) [32]).bind _=_
 rw[catO,if_pos (by simp;omega),Option.bind_some]
 rw[Bool.not_false,Bool.true_and,Q0f,Q4m,if_pos (by decide),Option.bind_some,show([32]++s++[32]:Str)=32::(s++[32]) from rfl,J2k s h1]
 rfl
def spcB(c:Int):Bool:=(decide (c=32)||(decide (c=9)||(decide (c=10)||(decide (c=59)||(decide (c=38)||(decide (c=124)||(decide (c=40)||(decide (c=41)||(decide (c=123)||(decide (c=125)||(decide (c=60)||(decide (c=62)||(decide (c=61)||(decide (c=94)||(decide (c=96)||(decide (c=36)||decide (c=39)))))))))))))))))
def mkB(q:UInt8):Bool:=decide (B q=48)||decide (B q=49)
def okQ(p:UInt8×UInt8):Bool:=mkB p.1&&!(decide (B p.1=48)&&spcB (B p.2))
def V4t:Str→Str→Bool
 | a::_,c::_=>decide (B a=49)||!(decide (B c=35)||(decide (B c=33)||decide (B c=64)))
 | _,_=>true
def V3u(t q:Str):Bool:=decide (q.length=t.length)&&((q.zip t).all okQ&&V4t q t)
end Go.Abs.U48
namespace Go.Abs.U48
open Go Go.Proofs
def eT:Token:=Token.mk 0 0 [] []
def tp(T:List Token)(i:Int):Token:=T.getD i.toNat eT
def atf(S:Str)(T:List Token)(i:Int):Int:=if i<T.length then(tp T i).at_ else S.length
def isT(t:Token)(s:Str):Bool:=decide (t.kind_=2)&&decide (t.text_=s)
theorem X0j(T:List Token)(n:Nat)(d e:Token):T.getD n d=if n<T.length then T.getD n e else d:=by
 by_cases h:n<T.length
 ·rw[if_pos h,List.getD_eq_getElem?_getD,List.getD_eq_getElem?_getD,List.getElem?_eq_getElem h]
  rfl
 rw[if_neg h,List.getD_eq_getElem?_getD,List.getElem?_eq_none (by omega)]
 rfl
theorem Q9t{T:List Token}{i:Int}(h:(T.length:Int)≤i):tp T i=eT:=by
 rw[tp,X0j _ _ _ eT,if_neg (by omega)]
theorem Q7i{T:List Token}{i:Int}(h0:0≤i)(h:i<T.length):lidx T i=some (tp T i):=by
 have hn:i.toNat<T.length:=by omega
 rw[lidx,if_pos h0,tp,List.getD_eq_getElem?_getD,List.getElem?_eq_getElem hn]
 rfl
section
variable {S:Str}{T:List Token}{D:List Str}{i:Int}
theorem wr1(h0:0≤i)(h:i≤4611686018427387904):IntKind.wrap .i64 (i+1)=i+1:=Q0o (by omega) (by omega)
theorem wr2(h0:0≤i)(h:i≤4611686018427387904):IntKind.wrap .i64 (i+2)=i+2:=Q0o (by omega) (by omega)
theorem V3p(k:Int)(hk:0≤k∧k≤1)(h0:0≤i)(h:i≤4611686018427387904):F84 k S T D i=some (tp T (i+k)):=by
 rw[F84,Q0o (by omega) (by omega)]
 by_cases hl:(T.length:Int)≤i+k
 ·rw[decide_eq_true hl,Q0c,Q9t hl]
  rfl
 rw[decide_eq_false hl,Q0b,Q7i (by omega) (by omega),Option.bind_some]
theorem Q1q(h0:0≤i)(h:i≤4611686018427387904):F84 0 S T D i=some (tp T i):=by
 rw[V3p 0 (by omega) h0 h,Int.add_zero]
theorem K0u(h0:0≤i)(h:i≤4611686018427387904):F84 1 S T D i=some (tp T (i+1)):=V3p 1 (by omega) h0 h
theorem Q2e(x y:Int)(h0:0≤i):∃t,F59 S T D i x y=some t∧t.kind_=(tp T i).kind_∧t.text_=(tp T i).text_∧t.quoted_=(tp T i).quoted_∧t.at_=atf S T i:=by
 rw[F59,atf]
 by_cases hl:i<(T.length:Int)
 ·rw[decide_eq_true hl,Q0c,Q7i h0 hl,Option.bind_some,if_pos hl]
  exact⟨_,rfl,rfl,rfl,rfl,rfl⟩
 rw[decide_eq_false hl,Q0b,if_neg hl,Q9t (by omega)]
 exact⟨_,rfl,rfl,rfl,rfl,rfl⟩
theorem Z5b(x y:Int)(h0:0≤i)(h:i<T.length):F59 S T D i x y=some (tp T i):=by
 rw[F59,decide_eq_true h,Q0c,Q7i h0 h,Option.bind_some]
theorem Z1t(t:Token)(s:Str):F128 t s=some (isT t s):=rfl
theorem Z9f(s:Str)(h0:0≤i)(h:i≤4611686018427387904):F127 s S T D i=some (isT (tp T i) s):=by
 rw[F127,Q1q h0 h,Option.bind_some,Z1t,Option.bind_some]
theorem Q1j(s:Str)(x y:Int)(h0:0≤i):F58 s S T D i x y=some (isT (tp T i) s):=by
 obtain⟨t,e,h1,h2,h3,-⟩:=Q2e (S:=S) (T:=T) (D:=D) x y h0
 rw[F58,e,Option.bind_some,isT,h1,h2]
theorem Z0s(y:Int)(h0:0≤i):F60 S T D i 0 y=some (47,atf S T i):=by
 obtain⟨t,e,-,-,-,h4⟩:=Q2e (S:=S) (T:=T) (D:=D) 47 y h0
 rw[F60,decide_eq_true rfl,Q0c,e,Option.bind_some,h4]
theorem J5d(y:Int):F60 S T D i 47 y=some (47,y):=rfl
theorem Q7x(h0:0≤i):F48 S T D i=some (.inl (atf S T i)):=by
 rw[F48,atf]
 by_cases hl:i<(T.length:Int)
 ·rw[decide_eq_true hl,Q0c,Q7i h0 hl,Option.bind_some,if_pos hl]
 rw[decide_eq_false hl,Q0b,if_neg hl]
def plT(t:Token):Bool:=decide (t.kind_=1)&&!Q2k t.quoted_
def kwT(t:Token):Str:=bif plT t&&kwsB t.text_ then t.text_ else[]
def keyT(t:Token)(s:Str):Bool:=(decide (t.kind_=1)&&decide (t.text_=s))&&!Q2k t.quoted_
def bW(t:Token):Bool:=decide (t.kind_=1)||(((isT t [36]||isT t [36,35])||isT t [40])||isT t [96])
def c0(s:Str):Int:=(s.head?.map B).getD 0
def bR(t:Token):Bool:=decide (t.kind_=4)||(decide (t.kind_=2)&&(decide (c0 t.text_=60)||decide (c0 t.text_=62)))
def bC(t:Token):Bool:=(((bW t||bR t)||isT t [33])||isT t [64])||isT t [123]
def asg(T:List Token)(i:Int):Bool:=(plT (tp T i)&&Q5n (tp T i).text_)&&isT (tp T (i+1)) [61]
theorem Z5o(t:Token):F133 t=some (plT t):=by
 rw[F133,plT]
 cases decide (t.kind_=1)with
 | false=>rfl
 | true=>
   rw[Q0f,Q8y,Option.bind_some,X0b]
   rfl
structure OkT(T:List Token):Prop where
 len:T.length≤1000000
 txt:∀t∈T,t.text_.length≤1000000∧t.quoted_.length≤1000000
 sym:∀t∈T,t.kind_=2→t.text_≠[]
theorem X5p{T:List Token}{i:Int}:tp T i∈T∨tp T i=eT:=by
 by_cases h:i.toNat<T.length
 ·left
  rw[tp,List.getD_eq_getElem?_getD,List.getElem?_eq_getElem h]
  exact List.getElem_mem h
 right
 rw[tp,X0j _ _ _ eT,if_neg h]
theorem OkT.tl(h:OkT T)(i:Int):(tp T i).text_.length≤1000000∧(tp T i).quoted_.length≤1000000∧((tp T i).kind_=2→(tp T i).text_≠[]):=by
 rcases X5p (T:=T) (i:=i)with hm|hm
 ·exact⟨(h.txt _ hm).1,(h.txt _ hm).2,h.sym _ hm⟩
 rw[hm]
 exact⟨by decide,by decide,fun e=>by cases e⟩
theorem Z4z{t:Token}(h:t.text_.length≤1000000):F83 t=some (kwT t):=by
 rw[F83,Z5o,Option.bind_some,kwT]
 cases plT t with
 | false=>rfl
 | true=>
   rw[Q0f,K1c _ (by omega),Option.bind_some,Bool.true_and]
   cases kwsB t.text_<;>rfl
theorem K1r{s:Str}(h:s≠[]):sidx s 0=some (c0 s):=by
 cases s with
 | nil=>exact absurd rfl h
 | cons c r=>rfl
theorem Z9e{t:Token}(h:t.kind_=2→t.text_≠[]):F130 t=some (bR t):=by
 rw[F130,bR]
 by_cases h2:t.kind_=2
 ·have h4:¬ t.kind_=4:=by omega
  rw[decide_eq_true h2,decide_eq_false h4]
  simp only[Bool.not_false,Bool.and_self,Q0f,K1r (h h2),Option.bind_some]
 rw[decide_eq_false h2]
 cases decide (t.kind_=4)<;>rfl
theorem Z9b(x y:Int)(ht:OkT T)(h0:0≤i):F178 S T D i x y=some (bR (tp T i)):=by
 obtain⟨t,e,h1,h2,h3,-⟩:=Q2e (S:=S) (T:=T) (D:=D) x y h0
 rw[F178,e,Option.bind_some]
 have hb:bR t=bR (tp T i):=by rw[bR,bR,h1,h2]
 have:=Z9e (t:=t) (by rw[h1,h2];exact(ht.tl i).2.2)
 rw[F130]at this
 rw[this,hb]
theorem Q4u(t:Token):F129 t=some (bW t):=by
 rw[F129,bW]
 cases decide (t.kind_=1)with
 | true=>rfl
 | false=>
   simp only[Z1t,Option.bind_some,Q0b,Bool.false_or]
   cases isT t [36]<;>simp only[Bool.not_false,Bool.not_true,Q0f,Q1p,Option.bind_some,Bool.true_or,Bool.false_or,Bool.or_true]
   cases isT t [36,35]<;>simp only[Bool.not_false,Bool.not_true,Q0f,Q1p,Option.bind_some,Bool.true_or,Bool.false_or]
   cases isT t [40]<;>simp only[Bool.not_false,Bool.not_true,Q0f,Q1p,Option.bind_some,Bool.true_or,Bool.false_or]
theorem Z5j(x y:Int)(h0:0≤i):F203 S T D i x y=some (bW (tp T i)):=by
 obtain⟨t,e,h1,h2,h3,-⟩:=Q2e (S:=S) (T:=T) (D:=D) x y h0
 simp only[F203,e,Option.bind_some,Q1j _ _ _ h0,h1,bW]
 cases decide ((tp T i).kind_=1)<;>cases isT (tp T i) [36]<;>cases isT (tp T i) [36,35]<;>cases isT (tp T i) [40]<;>cases isT (tp T i) [96]<;>rfl
theorem K0v(ht:OkT T)(h0:0≤i)(h:i≤4611686018427387904):F81 false S T D i=some (bC (tp T i)):=by
 simp only[F81,Q1q h0 h,Option.bind_some,Q1p,Bool.false_and,Q0b,Q4u,Z9e (ht.tl i).2.2,Z1t,bC]
 cases bW (tp T i)<;>simp only[Bool.not_false,Bool.not_true,Q0f,Q1p,Option.bind_some,Bool.true_or,Bool.false_or,Bool.or_true]
 cases bR (tp T i)<;>simp only[Bool.not_false,Bool.not_true,Q0f,Q1p,Option.bind_some,Bool.true_or,Bool.false_or]
 cases isT (tp T i) [33]<;>simp only[Bool.not_false,Bool.not_true,Q0f,Q1p,Option.bind_some,Bool.true_or,Bool.false_or]
 cases isT (tp T i) [64]<;>simp only[Bool.not_false,Bool.not_true,Q0f,Q1p,Option.bind_some,Bool.true_or,Bool.false_or]
theorem K1b(x y:Int)(ht:OkT T)(h0:0≤i):F176 S T D i x y=some (bC (tp T i)):=by
 simp only[F176,Q1j _ _ _ h0,Z5j _ _ h0,Z9b _ _ ht h0,Option.bind_some,bC]
 cases bW (tp T i)<;>cases bR (tp T i)<;>cases isT (tp T i) [33]<;>cases isT (tp T i) [64]<;>cases isT (tp T i) [123]<;>rfl
theorem Q9q(s:Str)(x y:Int)(ht:OkT T)(h0:0≤i):F140 s S T D i x y=some (keyT (tp T i) s):=by
 obtain⟨t,e,h1,h2,h3,-⟩:=Q2e (S:=S) (T:=T) (D:=D) x y h0
 rw[F140,e,Option.bind_some,keyT,h1,h2,h3]
 cases decide ((tp T i).kind_=1)&&decide ((tp T i).text_=s)with
 | false=>rfl
 | true=>
   rw[Q0f,Z1r _ (by have:=(ht.tl i).2.1;omega),Option.bind_some]
theorem J3j(x y:Int)(ht:OkT T)(h0:0≤i)(h:i≤4611686018427387904):F141 S T D i x y=some (asg T i):=by
 obtain⟨t,e,h1,h2,h3,-⟩:=Q2e (S:=S) (T:=T) (D:=D) x y h0
 rw[F141,e,Option.bind_some,asg,h1,h2,h3,plT,wr1 h0 h]
 cases decide ((tp T i).kind_=1)with
 | false=>rfl
 | true=>
   rw[Q0f,Z1r _ (by have:=(ht.tl i).2.1;omega),Option.bind_some]
   cases Q2k (tp T i).quoted_ with
   | true=>rfl
   | false=>
     simp only[Bool.not_true,Bool.or_false,Bool.not_false,Q0f]
     rw[X2t _ (by have:=(ht.tl i).1;omega),Option.bind_some]
     cases Q5n (tp T i).text_ with
     | false=>rfl
     | true=>
       simp only[Bool.not_true,Bool.false_or,Bool.true_and]
       by_cases hl:(T.length:Int)≤i+1
       ·rw[decide_eq_true hl,Q0c,Q9t hl]
        rfl
       rw[decide_eq_false hl,Q0b,Q7i (by omega) (by omega),Option.bind_some]
       rfl
theorem Q3q{t:Token}{s:Str}(hk:kwsB s=true):decide (kwT t=s)=keyT t s:=by
 have hs:=(J9t hk).2
 rw[kwT,keyT,plT]
 by_cases ht:t.text_=s
 ·rw[ht,hk,decide_eq_true rfl]
  cases decide (t.kind_=1)<;>cases Q2k t.quoted_<;>simp[hs]<;>exact fun e=>hs e.symm
 rw[decide_eq_false ht]
 simp only[Bool.and_false,Bool.false_and]
 rw[decide_eq_false]
 intro e
 cases hc:(decide (t.kind_=1)&&!Q2k t.quoted_)&&kwsB t.text_ with
 | true=>rw[hc,Q0c]at e;exact ht e
 | false=>rw[hc,Q0b]at e;exact hs e.symm
def csT(T:List Token)(i:Int):Bool:=keyT (tp T i) [99,97,115,101]&&!isT (tp T (i+1)) [61]
theorem V3o(x y:Int)(ht:OkT T)(h0:0≤i)(h:i≤4611686018427387904):F95 S T D i x y=some (csT T i):=by
 rw[F95,Q9q _ x y ht h0,Option.bind_some,csT]
 cases hk:keyT (tp T i) [99,97,115,101]with
 | false=>rfl
 | true=>
   rw[Q0c,J3j _ _ ht h0 h,Option.bind_some,asg]
   rw[keyT]at hk
   simp only[Bool.and_eq_true,decide_eq_true_eq,Bool.not_eq_true']at hk
   rw[plT,hk.1.1,hk.1.2,hk.2]
   rfl
theorem Y1a(ht:OkT T)(h0:0≤i)(h:i≤4611686018427387904):F81 true S T D i=some (!csT T i&&bC (tp T i)):=by
 have hk:kwsB [99,97,115,101]=true:=by kernel_rfl
 have h1:=K0v (S:=S) (D:=D) ht h0 h
 simp only[F81,Q1q h0 h,Option.bind_some,Q1p,Bool.false_and,Q0b]at h1
 simp only[F81,Q1q h0 h,Option.bind_some,Q0f,Z4z (ht.tl i).1,Bool.true_and,Q3q hk,K0u h0 h,Z1t (tp T (i+1)),csT]
 cases keyT (tp T i) [99,97,115,101]with
 | false=>
   rw[Q0b,h1]
   rfl
 | true=>
   rw[Q0c]
   cases isT (tp T (i+1)) [61]with
   | true=>
     simp only[Bool.not_true,Q0b]
     rw[h1]
     rfl
   | false=>rfl
theorem J1p{T:List Token}{i:Int}(h:(tp T i).kind_≠0)(h0:0≤i):i<T.length:=by
 rcases Int.lt_or_le i T.length with hl|hl
 ·exact hl
 rw[Q9t hl]at h
 exact absurd rfl h
theorem Q2v{T:List Token}{i:Int}{s:Str}(h:isT (tp T i) s=true)(h0:0≤i):i<T.length:=by
 rw[isT,Bool.and_eq_true,decide_eq_true_eq]at h
 exact J1p (by rw[h.1];decide) h0
theorem J0y:∀ (k m m':Nat) (i:Int),0≤i→(T.length:Int)≤i+k→k<m→k<m'→i≤4000000000000000000→T.length≤1000000→
 ∃j,(∀D',iter (Q3t S T D') m i=some j)∧(∀D' x y,iter (Z0r S T D' x y) m' i=some j)∧i≤j∧(j≤i∨j≤T.length)∧(tp T j).kind_≠3
 | k,0,_,i,_,_,h,_,_,_=>absurd h (Nat.not_lt_zero _)
 | k,_,0,i,_,_,_,h,_,_=>absurd h (Nat.not_lt_zero _)
 | k,m+1,m'+1,i,h0,hl,h1,h2,hb,hT=>by
   by_cases hk:(tp T i).kind_=3
   ·have hlt:=J1p (by rw[hk];decide) h0
    cases k with
    | zero=>omega
    | succ k=>
      obtain⟨j,e1,e2,e3,e4,e5⟩:=J0y k m m' (i+1) (by omega) (by omega) (by omega) (by omega) (by omega) hT
      refine⟨j,fun D'=>?_,fun D' x y=>?_,by omega,by omega,e5⟩
      ·show Q3t S T D' (iter (Q3t S T D') m) i=_
       rw[Q3t,Q1q h0 (by omega),Option.bind_some,hk,decide_eq_true rfl,Q0c,wr1 h0 (by omega)]
       exact e1 D'
      show Z0r S T D' x y (iter (Z0r S T D' x y) m') i=_
      obtain⟨t,e,g1,-⟩:=Q2e (S:=S) (T:=T) (D:=D') x y h0
      rw[Z0r,e,Option.bind_some,g1,hk,decide_eq_true rfl,Q0c,wr1 h0 (by omega)]
      exact e2 D' x y
   refine⟨i,fun D'=>?_,fun D' x y=>?_,by omega,by omega,hk⟩
   ·show Q3t S T D' (iter (Q3t S T D') m) i=_
    rw[Q3t,Q1q h0 (by omega),Option.bind_some,decide_eq_false hk,Q0b]
   show Z0r S T D' x y (iter (Z0r S T D' x y) m') i=_
   obtain⟨t,e,g1,-⟩:=Q2e (S:=S) (T:=T) (D:=D') x y h0
   rw[Z0r,e,Option.bind_some,g1,decide_eq_false hk,Q0b]
theorem Q6f(ht:OkT T)(h0:0≤i)(hb:i≤4000000000000000000):
 ∃j,(∀D',F168 S T D' i=some j)∧(∀D' x y,F97 S T D' i x y=some j)∧i≤j∧(j≤i∨j≤T.length)∧(tp T j).kind_≠3:=by
 have:=ht.len
 exact J0y T.length BIG BIG i h0 (by omega) (by unfold BIG;omega) (by unfold BIG;omega) hb ht.len
def gapT(t:Token):Bool:=decide (t.kind_=3)||isT t [59]
theorem X9h{T:List Token}{i:Int}(h:gapT (tp T i)=true)(h0:0≤i):i<T.length:=by
 rw[gapT,Bool.or_eq_true,decide_eq_true_eq]at h
 rcases h with h|h
 ·exact J1p (by rw[h];decide) h0
 exact Q2v h h0
theorem X0k:∀ (k m m':Nat) (i i0:Int),0≤i→(T.length:Int)≤i+k→k<m→k<m'→i≤4000000000000000000→T.length≤1000000→
 ∃j,(∀D',iter (Z5a S T D' i0) m i=some (decide (i0<j),j))∧(∀D' x y,iter (Z5d S T D' x y) m' i=some j)∧i≤j∧(j≤i∨j≤T.length)∧gapT (tp T j)=false∧(gapT (tp T i)=true→i<j)∧(gapT (tp T i)=false→j=i)
 | k,0,_,i,_,_,_,h,_,_,_=>absurd h (Nat.not_lt_zero _)
 | k,_,0,i,_,_,_,_,h,_,_=>absurd h (Nat.not_lt_zero _)
 | k,m+1,m'+1,i,i0,h0,hl,h1,h2,hb,hT=>by
   have sp:∀D',Z5a S T D' i0 (iter (Z5a S T D' i0) m) i=(bif gapT (tp T i)then iter (Z5a S T D' i0) m (i+1)else some (decide (i0<i),i)):=by
    intro D'
    rw[Z5a,Q1q h0 (by omega),Option.bind_some,Z9f _ h0 (by omega),Option.bind_some,wr1 h0 (by omega),gapT]
    cases decide ((tp T i).kind_=3)<;>cases isT (tp T i) [59]<;>rfl
   have sr:∀D' x y,Z5d S T D' x y (iter (Z5d S T D' x y) m') i=(bif gapT (tp T i)then iter (Z5d S T D' x y) m' (i+1)else some i):=by
    intro D' x y
    obtain⟨t,e,g1,-⟩:=Q2e (S:=S) (T:=T) (D:=D') x y h0
    rw[Z5d,e,Option.bind_some,Q1j _ _ _ h0,Option.bind_some,wr1 h0 (by omega),g1,gapT]
    cases decide ((tp T i).kind_=3)<;>cases isT (tp T i) [59]<;>rfl
   cases hg:gapT (tp T i)with
   | true=>
     have hlt:=X9h hg h0
     cases k with
     | zero=>omega
     | succ k=>
       obtain⟨j,e1,e2,e3,e4,e5,e6,e7⟩:=X0k k m m' (i+1) i0 (by omega) (by omega) (by omega) (by omega) (by omega) hT
       refine⟨j,fun D'=>?_,fun D' x y=>?_,by omega,by omega,e5,fun _=>by omega,fun h=>by cases h⟩
       ·refine(sp D').trans ?_
        rw[hg,Q0c]
        exact e1 D'
       refine(sr D' x y).trans ?_
       rw[hg,Q0c]
       exact e2 D' x y
   | false=>
     refine⟨i,fun D'=>?_,fun D' x y=>?_,by omega,by omega,hg,fun h=>by(first|cases h|(rw[hg]at h;cases h)),fun _=>rfl⟩
     ·refine(sp D').trans ?_
      rw[hg,Q0b]
     refine(sr D' x y).trans ?_
     rw[hg,Q0b]
theorem Q7n(ht:OkT T)(h0:0≤i)(hb:i≤4000000000000000000):
 ∃j,(∀D',F80 S T D' i=some (gapT (tp T i),j))∧(∀D' x y,F55 S T D' i x y=some j)∧i≤j∧(j≤i∨j≤T.length)∧gapT (tp T j)=false∧(gapT (tp T i)=true→i<j)∧(gapT (tp T i)=false→j=i):=by
 have:=ht.len
 obtain⟨j,e1,e2,e3,e4,e5,e6,e7⟩:=X0k (S:=S) T.length BIG BIG i i h0 (by omega) (by unfold BIG;omega) (by unfold BIG;omega) hb ht.len
 refine⟨j,fun D'=>?_,e2,e3,e4,e5,e6,e7⟩
 rw[F80,e1 D']
 cases hg:gapT (tp T i)with
 | true=>rw[decide_eq_true (e6 hg)]
 | false=>rw[e7 hg,decide_eq_false (by omega)]
end
end Go.Abs.U48
namespace Go.Abs.U48
open Go Go.Proofs
def Ag{α:Type}(P:α→Int→Prop)(N lo b:Int)(p:Option (Int ⊕ (α×Int)))(r:Option (α×Int×Int×Int)):Prop:=
 (∃a j,p=some (.inr (a,j))∧r=some (a,j,0,0)∧P a j∧lo≤j∧j≤N)∨(∃n a j,p=some (.inl n)∧r=some (a,j,47,n)∧0≤j∧j≤b)
def Bad{α:Type}(b n:Int)(r:Option (α×Int×Int×Int)):Prop:=∃a j,r=some (a,j,47,n)∧0≤j∧j≤b
section
variable {α β:Type}{P:α→Int→Prop}{P':β→Int→Prop}{N i i' b b':Int}
theorem Ag.bind{p:Option (Int ⊕ (α×Int))}{r:Option (α×Int×Int×Int)}{f:α×Int→Option (Int ⊕ (β×Int))}{g:α×Int×Int×Int→Option (β×Int×Int×Int)}(h:Ag P N i b p r)
 (hs:∀a j,P a j→i≤j→j≤N→Ag P' N i' b' (f (a,j)) (g (a,j,0,0))) (hf:∀n a j,0≤j→j≤b→Bad b' n (g (a,j,47,n))):Ag P' N i' b' (Q0g p f) (r.bind g):=by
 rcases h with⟨a,j,e1,e2,h0,h1,h2⟩|⟨n,a,j,e1,e2,h1,h2⟩
 ·have:=hs a j h0 h1 h2
  rw[e1,e2]
  exact this
 obtain⟨a',j',e3,h3,h4⟩:=hf n a j h1 h2
 rw[e1,e2]
 exact .inr ⟨n,a',j',rfl,e3,h3,h4⟩
theorem Ag.ok{a:α}{j:Int}(h0:P a j)(h1:i≤j)(h2:j≤N):Ag P N i b (some (.inr (a,j))) (some (a,j,0,0)):=.inl ⟨a,j,rfl,rfl,h0,h1,h2⟩
theorem Ag.no{a:α}{j n:Int}(h1:0≤j)(h2:j≤b):Ag P N i b (some (.inl n)) (some (a,j,47,n)):=.inr ⟨n,a,j,rfl,rfl,h1,h2⟩
theorem Bad.mk{a:α}{j n:Int}(h1:0≤j)(h2:j≤b):Bad b n (some (a,j,47,n)):=⟨a,j,rfl,h1,h2⟩
theorem Ag.bad{p:Option (Int ⊕ (α×Int))}{r:Option (α×Int×Int×Int)}{n:Int}(h:Bad b n r)(hp:p=some (.inl n)):Ag P N i b p r:=by
 obtain⟨a,j,e,h1,h2⟩:=h
 exact .inr ⟨n,a,j,hp,e,h1,h2⟩
theorem Ag.of_no{p:Option (Int ⊕ (α×Int))}{r:Option (α×Int×Int×Int)}{n:Int}(h:Ag P N i b p r)(hp:p=some (.inl n)):Bad b n r:=by
 rcases h with⟨a,j,e1,e2,h1,h2⟩|⟨m,a,j,e1,e2,h1,h2⟩
 ·rw[hp]at e1
  cases e1
 rw[hp]at e1
 cases e1
 exact⟨a,j,e2,h1,h2⟩
theorem Bad.bind{r:Option (α×Int×Int×Int)}{g:α×Int×Int×Int→Option (β×Int×Int×Int)}{n:Int}(h:Bad b n r)(hf:∀a j,0≤j→j≤b→Bad b' n (g (a,j,47,n))):Bad b' n (r.bind g):=by
 obtain⟨a,j,e,h1,h2⟩:=h
 rw[e]
 exact hf a j h1 h2
end
abbrev PCm:=Bool→Str→List Token→List Str→Int→Option (Int ⊕ (Cmd×Int))
abbrev PWd:=Str→List Token→List Str→Int→Option (Int ⊕ (Word×Int))
abbrev RCm:=Str→List Token→List Str→Int→Int→Int→Option (Cmd×Int×Int×Int)
abbrev RWd:=Str→List Token→List Str→Int→Int→Int→Option (Word×Int×Int×Int)
def Kc(i:Int)(a:Cmd)(j:Int):Prop:=a.kind_≠14∧(nC a:Int)+4≤8 * (j-i)
def Kw(i:Int)(a:Word)(j:Int):Prop:=(nW a:Int)+5≤8 * (j-i)
def Kr(i:Int)(a:Redir)(j:Int):Prop:=(nR a:Int)+5≤8 * (j-i)
theorem Z1b:∀ (l:List Word) (a:Word),nWs (l++[a])=nWs l+nW a
 | [],a=>by simp only[List.nil_append,nWs];omega
 | x::l,a=>by simp only[List.cons_append,nWs,Z1b l a];omega
theorem Q7g:∀ (l:List Cmd) (a:Cmd),nCs (l++[a])=nCs l+nC a
 | [],a=>by simp only[List.nil_append,nCs];omega
 | x::l,a=>by simp only[List.cons_append,nCs,Q7g l a];omega
theorem J2h:∀ (l:List Redir) (a:Redir),nRs (l++[a])=nRs l+nR a
 | [],a=>by simp only[List.nil_append,nRs];omega
 | x::l,a=>by simp only[List.cons_append,nRs,J2h l a];omega
structure HC(S:Str)(T:List Token)(D:List Str)(b ic:Int)(wc:PCm)(vc:RCm):Prop where
 ag:∀ (c:Bool) (i:Int),ic≤i→i≤T.length→Ag (Kc i) T.length (i+1) b (wc c S T D i) (vc S T D i 0 0)
 no:∀ (c:Bool) (i:Int),ic≤i→i≤T.length→bC (tp T i)=false→wc c S T D i=some (.inl (atf S T i))
 on:∀ (j n:Int),0≤j→∃a,vc S T D j 47 n=some (a,j,47,n)
structure HW(S:Str)(T:List Token)(D:List Str)(b iw:Int)(ww:PWd)(vw:RWd):Prop where
 ag:∀ (i:Int),iw≤i→i≤T.length→Ag (Kw i) T.length (i+1) b (ww S T D i) (vw S T D i 0 0)
 no:∀ (i:Int),iw≤i→i≤T.length→bW (tp T i)=false→ww S T D i=some (.inl (atf S T i))
 on:∀ (j n:Int),0≤j→j≤2900000000000000000→∃a j',vw S T D j 47 n=some (a,j',47,n)∧j≤j'∧j'≤j+3
section
variable {S:Str}{T:List Token}{D:List Str}{b ic iw:Int}{wc:PCm}{vc:RCm}{ww:PWd}{vw:RWd}
theorem e00:decide ((0:Int)=0)=true:=rfl
theorem e47:decide ((47:Int)=0)=false:=rfl
theorem Q6v(s:Str){i:Int}(h0:0≤i)(h:i≤4611686018427387904):F132 s S T D i=some (isT (tp T i) s,bif isT (tp T i) s then i+1 else i):=by
 rw[F132,Z9f _ h0 h,Option.bind_some,wr1 h0 h]
theorem J0f(ht:OkT T)(h:HC S T D b ic wc vc)(hic:0≤ic)(hb:(T.length:Int)≤b)(c:Bool)(r:Cmd)(i0:Int):
 ∀ (k m m':Nat) (j:Int) (l:List Cmd),ic≤j→i0<j→j≤T.length→(T.length:Int)≤j+k→k<m→k+1<m'→2≤l.length→(l.length:Int)≤j→l.head?=some r→(nCs l:Int)+8≤8 * (j-i0)→
 Ag (Kc i0) T.length (i0+1) b (iter (Q9p S T D wc c) m (j,l)) (iter (Q6d S T D vc r) m' (j,0,0,l))
 | k,0,_,_,_,_,_,_,_,hm,_,_,_,_,_=>absurd hm (Nat.not_lt_zero _)
 | k,_,0,_,_,_,_,_,_,_,hm,_,_,_,_=>absurd hm (Nat.not_lt_zero _)
 | k,m+1,m'+1,j,l,h1,hi,h2,h3,h4,h5,h6,hll,h7,hN=>by
   have hT:=ht.len
   have hl:¬ ((l.length:Int)=1):=by omega
   have h0:0≤j:=by omega
   show Ag _ _ _ _ (Q9p S T D wc c (iter (Q9p S T D wc c) m) (j,l)) (Q6d S T D vc r (iter (Q6d S T D vc r) m') (j,0,0,l))
   rw[Q9p,Q6d]
   dsimp only
   rw[Q6v _ h0 (by omega),Option.bind_some,e00,Q0c,Q1j _ _ _ h0,Option.bind_some]
   dsimp only
   cases hs:isT (tp T j) [124]with
   | false=>
     simp only[Q0b]
     rw[decide_eq_false hl,Q0b,Q0b]
     cases l with
     | nil=>cases h7
     | cons x l=>
       simp only[List.head?_cons,Option.some.injEq]at h7
       subst h7
       exact Ag.ok ⟨show(3:Int)≠14 by decide,by rw[Q3d];simp only[nWs,nRs];omega⟩ (by omega) h2
   | true=>
     simp only[Q0c]
     have hlt:=Q2v hs h0
     obtain⟨j',e1,e2,e3,e4,e5⟩:=Q6f (S:=S) ht (i:=j+1) (by omega) (by omega)
     rw[e1,Option.bind_some,wr1 h0 (by omega),e2,Option.bind_some]
     cases k with
     | zero=>omega
     | succ k=>
       refine(Ag.bind (b':=b) (h.ag c j' (by omega) (by omega)) (i':=i0+1) (fun a j2 g0 g1 g2=>?_) (fun n a j2 g1 g2=>?_))
       ·dsimp only
        rw[Q0l (by simp only[List.length_cons,List.length_nil];omega),Option.bind_some]
        rw[Option.bind_some]
        have g5:=g0.2
        refine(J0f ht h hic hb c r i0 k m m' j2 (l++[a]) (by omega) (by omega) g2 (by omega) (by omega) (by omega) (by simp;omega) (by simp;omega) ?_ (by rw[Q7g];omega))
        cases l with
        | nil=>cases h7
        | cons x l=>exact h7
       dsimp only
       rw[Q0l (by simp only[List.length_cons,List.length_nil];omega),Option.bind_some]
       cases m' with
       | zero=>omega
       | succ m'=>
         show Bad _ _ (Q6d S T D vc r (iter (Q6d S T D vc r) m') (j2,47,n,l++[a]))
         rw[Q6d]
         dsimp only
         rw[e47,Q0b]
         cases decide (((l++[a]).length:Int)=1)<;>exact Bad.mk g1 g2
theorem J9j(ht:OkT T)(h:HC S T D b ic wc vc)(hic:0≤ic)(hb:(T.length:Int)≤b)(c:Bool){i:Int}(h1:ic≤i)(h2:i≤T.length):
 Ag (Kc i) T.length (i+1) b (F167 wc c S T D i) (F96 vc S T D i 0 0):=by
 have hT:=ht.len
 rw[F167,F96]
 refine Ag.bind (h.ag c i h1 h2) (fun a j g0 g1 g2=>?_) (fun n a j g1 g2=>?_)
 ·dsimp only
  rw[Q6v _ (by omega) (by omega),Option.bind_some,e00,Q0c,Q1j _ _ _ (by omega),Option.bind_some]
  dsimp only
  cases hs:isT (tp T j) [124]with
  | false=>exact Ag.ok g0 g1 g2
  | true=>
    simp only[Q0c]
    have hlt:=Q2v hs (by omega)
    obtain⟨j',e1,e2,e3,e4,e5⟩:=Q6f (S:=S) ht (i:=j+1) (by omega) (by omega)
    rw[e1,Option.bind_some,wr1 (by omega) (by omega),e2,Option.bind_some]
    refine(Ag.bind (b':=b) (h.ag c j' (by omega) (by omega)) (i':=i+1) (fun a2 j2 g0' g1 g2=>?_) (fun n a2 j2 g1 g2=>?_))
    ·dsimp only
     rw[Q0l (by simp only[List.length_cons,List.length_nil];omega),Option.bind_some,Option.bind_some]
     exact J0f ht h hic hb c a i T.length BIG BIG j2 [a,a2] (by omega) (by omega) g2 (by omega) (by unfold BIG;omega) (by unfold BIG;omega) (by simp) (by simp only[List.length_cons,List.length_nil];omega) rfl (by have:=g0.2;have:=g0'.2;simp only[nCs];omega)
    dsimp only
    rw[Q0l (by simp only[List.length_cons,List.length_nil];omega),Option.bind_some]
    show Bad _ _ (Q6d S T D vc a (iter (Q6d S T D vc a) 1180591620717411303423) (j2,47,n,[a]++[a2]))
    rw[Q6d]
    dsimp only
    rw[e47,Q0b]
    exact Bad.mk g1 g2
 dsimp only
 rw[e47,Q0b]
 exact Bad.mk g1 g2
end
end Go.Abs.U48
namespace Go.Abs.U48
open Go Go.Proofs
section
variable {S:Str}{T:List Token}{D:List Str}{b ic iw:Int}{wc:PCm}{vc:RCm}{ww:PWd}{vw:RWd}
theorem Z4d{t:Token}{s s':Str}(h:isT t s=true)(hn:decide (s=s')=false):isT t s'=false:=by
 rw[isT,Bool.and_eq_true,decide_eq_true_eq,decide_eq_true_eq]at h
 rw[isT,h.2,hn,Bool.and_false]
theorem X7j(vc:RCm)(r:Cmd)(m:Nat)(hm:0<m)(j n:Int)(k:Int)(nm:Str)(ws:List Word)(rs:List Redir)(ks:List Cmd)(h1:0≤j)(h2:j≤b):
 Bad b n (iter (Q6x S T D vc r) m (j,47,n,k,nm,ws,rs,ks)):=by
 cases m with
 | zero=>omega
 | succ m=>
   show Bad _ _ (Q6x S T D vc r (iter (Q6x S T D vc r) m) (j,47,n,k,nm,ws,rs,ks))
   rw[Q6x]
   dsimp only
   rw[e47,Q0b]
   exact Bad.mk h1 h2
theorem Z6p(ht:OkT T)(h:HC S T D b ic wc vc)(hic:0≤ic)(hb:(T.length:Int)≤b)(c:Bool)(r:Cmd)(i0:Int):
 ∀ (k m m':Nat) (j:Int) (kx:Int) (nm:Str) (ws:List Word) (rs:List Redir) (ks:List Cmd),ic≤j→i0<j→j≤T.length→(T.length:Int)≤j+k→k<m→k+1<m'→kx≠14→(nWs ws:Int)+nCs ks+nRs rs+5≤8 * (j-i0)→
 Ag (Kc i0) T.length (i0+1) b (iter (Q8a S T D wc c r) m (j,kx,nm,ws,rs,ks)) (iter (Q6x S T D vc r) m' (j,0,0,kx,nm,ws,rs,ks))
 | k,0,_,_,_,_,_,_,_,_,_,_,_,hm,_,_,_=>absurd hm (Nat.not_lt_zero _)
 | k,_,0,_,_,_,_,_,_,_,_,_,_,_,hm,_,_=>absurd hm (Nat.not_lt_zero _)
 | k,m+1,m'+1,j,kx,nm,ws,rs,ks,h1,hi,h2,h3,h4,h5,hk,hN=>by
   have hT:=ht.len
   have h0:0≤j:=by omega
   have step:∀ (kd:Int),kd≠14→j<T.length→Ag (Kc i0) T.length (i0+1) b (Z1s S T D wc c (iter (Q8a S T D wc c r) m) kx r nm ws rs ks (kd,j+1)) (Z5c S T D j 0 0 vc (iter (Q6x S T D vc r) m') kx r nm ws rs ks kd):=by
    intro kd hkd hlt
    obtain⟨j',e1,e2,e3,e4,e5⟩:=Q6f (S:=S) ht (i:=j+1) (by omega) (by omega)
    rw[Z1s,Z5c]
    dsimp only
    rw[e1,Option.bind_some,wr1 (by omega) (by omega),e2,Option.bind_some]
    refine Ag.bind (J9j ht h hic hb c (i:=j') (by omega) (by omega)) (fun a j2 g0 g1 g2=>?_) (fun n a j2 g1 g2=>?_)
    ·dsimp only
     cases k with
     | zero=>omega
     | succ k=>exact Z6p ht h hic hb c r i0 k m m' j2 kd _ _ _ _ (by omega) (by omega) g2 (by omega) (by omega) (by omega) hkd (by have:=g0.2;simp only[nCs,Q3d (Cmd.mk _ _ _ _ _ _),nWs,nRs];omega)
    dsimp only
    exact X7j vc r m' (by omega) j2 n kd _ _ _ _ g1 g2
   show Ag _ _ _ _ (Q8a S T D wc c r (iter (Q8a S T D wc c r) m) (j,kx,nm,ws,rs,ks)) (Q6x S T D vc r (iter (Q6x S T D vc r) m') (j,0,0,kx,nm,ws,rs,ks))
   rw[Q8a,Q6x]
   dsimp only
   rw[Q6v _ h0 (by omega),Option.bind_some,e00,Q0c,Q1j _ _ _ h0,Option.bind_some,Q1j _ _ _ h0,Option.bind_some,Option.bind_some]
   dsimp only
   cases hs:isT (tp T j) [38,38]with
   | true=>
     have hlt:=Q2v hs h0
     simp only[Q0c]
     rw[Z4d hs (by decide)]
     exact step 5 (by decide) hlt
   | false=>
     simp only[Q0b]
     rw[Q6v _ h0 (by omega),Option.bind_some]
     dsimp only
     cases hs2:isT (tp T j) [124,124]with
     | false=>exact Ag.ok (j:=j) (show Kc i0 (Cmd.mk kx r.at_ nm ws rs ks) j from ⟨hk,by rw[Q3d];show((1+nWs ws+nCs ks+nRs rs:Nat):Int)+4≤_;omega⟩) (by omega) h2
     | true=>
       have hlt:=Q2v hs2 h0
       have:=step 6 (by decide) hlt
       rw[Z5c]at this
       exact this
theorem X4s(ht:OkT T)(h:HC S T D b ic wc vc)(hic:0≤ic)(hb:(T.length:Int)≤b)(c:Bool){i:Int}(h1:ic≤i)(h2:i≤T.length):
 Ag (Kc i) T.length (i+1) b (F131 wc c S T D i) (F57 vc S T D i 0 0):=by
 have hT:=ht.len
 rw[F131,F57]
 refine Ag.bind (J9j ht h hic hb c h1 h2) (fun a j g0 g1 g2=>?_) (fun n a j g1 g2=>?_)
 ·dsimp only
  exact Z6p ht h hic hb c a i T.length BIG BIG j _ _ _ _ _ (by omega) (by omega) g2 (by omega) (by unfold BIG;omega) (by unfold BIG;omega) g0.1 (by have:=g0.2;rw[Q3d]at this;omega)
 dsimp only
 exact X7j vc a BIG (by unfold BIG;omega) j n _ _ _ _ _ g1 g2
theorem Z5i(vw:RWd)(m:Nat)(hm:0<m)(j n:Int)(l:List Word):iter (Q5r S T D vw) m (j,47,n,l)=some ([],j,47,n):=by
 cases m with
 | zero=>omega
 | succ m=>
   show Q5r S T D vw (iter (Q5r S T D vw) m) (j,47,n,l)=_
   rw[Q5r]
   dsimp only
   rw[e47,Q0b]
def Wds(S:Str)(T:List Token)(i b:Int)(p:Option (Int ⊕ (List Word×Int)))(r:Option (List Word×Int×Int×Int)):Prop:=
 (∃n,p=some (.inl n)∧Bad b n r)∨∃l j,p=some (.inr (l,j))∧i≤j∧j≤T.length∧((tp T j).kind_≠3∧(nWs l:Int)≤8 * (j-i))∧
   ((isT (tp T j) [41]=true∧r=some (l,j+1,0,0))∨(isT (tp T j) [41]=false∧Bad b (atf S T j) r))
theorem X1g{t:Token}(h:isT t [41]=true):bW t=false:=by
 rw[bW,Z4d h (by decide),Z4d h (by decide),Z4d h (by decide),Z4d h (by decide)]
 rw[isT,Bool.and_eq_true,decide_eq_true_eq]at h
 rw[h.1]
 rfl
theorem Z6b(ht:OkT T)(h:HW S T D b iw ww vw)(hiw:0≤iw)(hb:(T.length:Int)≤b)(i0:Int):
 ∀ (k m m':Nat) (j:Int) (l:List Word),iw≤j→i0≤j→j≤T.length→(T.length:Int)≤j+k→k<m→k+1<m'→(l.length:Int)≤j→(nWs l:Int)≤8 * (j-i0)→
 Wds S T i0 b (iter (Q3b S T D ww) m (j,l)) (iter (Q5r S T D vw) m' (j,0,0,l))
 | k,0,_,_,_,_,_,_,_,hm,_,_,_=>absurd hm (Nat.not_lt_zero _)
 | k,_,0,_,_,_,_,_,_,_,hm,_,_=>absurd hm (Nat.not_lt_zero _)
 | k,m+1,m'+1,j,l,h1,hi,h2,h3,h4,h5,hll,hN=>by
   have hT:=ht.len
   have h0:0≤j:=by omega
   obtain⟨j',e1,e2,e3,e4,e5⟩:=Q6f (S:=S) ht (i:=j) (by omega) (by omega)
   show Wds _ _ _ _ (Q3b S T D ww (iter (Q3b S T D ww) m) (j,l)) (Q5r S T D vw (iter (Q5r S T D vw) m') (j,0,0,l))
   rw[Q3b,Q5r]
   dsimp only
   rw[e1,Option.bind_some,Q1q (by omega) (by omega),Option.bind_some,Q4u,Option.bind_some,e00,Q0c,e2,Option.bind_some,Q1j _ _ _ (by omega),Option.bind_some]
   cases hw:bW (tp T j')with
   | false=>
     simp only[Bool.not_false,Q0c]
     refine .inr ⟨l,j',rfl,by omega,by omega,⟨e5,by omega⟩,?_⟩
     cases hp:isT (tp T j') [41]with
     | true=>
       refine .inl ⟨rfl,?_⟩
       rw[Q0c,wr1 (by omega) (by omega)]
     | false=>
       refine .inr ⟨rfl,?_⟩
       rw[Q0b]
       refine Bad.bind ((h.ag j' (by omega) (by omega)).of_no (h.no j' (by omega) (by omega) hw)) (fun a j2 g1 g2=>?_)
       dsimp only
       rw[Q0l (by simp only[List.length_cons,List.length_nil];omega),Option.bind_some]
       rw[Z5i vw m' (by omega)]
       exact Bad.mk g1 g2
   | true=>
     have hp:isT (tp T j') [41]=false:=by
      cases hp:isT (tp T j') [41]with
      | false=>rfl
      | true=>rw[X1g hp]at hw;cases hw
     rw[hp]
     simp only[Bool.not_true,Q0b]
     rcases h.ag j' (by omega) (by omega)with⟨a,j2,p1,p2,g0,g1,g2⟩|⟨n,a,j2,p1,p2,g1,g2⟩
     ·rw[p1,p2]
      show Wds _ _ _ _ ((appO 88 l [a]).bind _) ((appO 88 l [a]).bind _)
      rw[Q0l (by simp only[List.length_cons,List.length_nil];omega),Option.bind_some,Option.bind_some]
      cases k with
      | zero=>omega
      | succ k=>exact Z6b ht h hiw hb i0 k m m' j2 (l++[a]) (by omega) (by omega) g2 (by omega) (by omega) (by omega) (by simp;omega) (by have:(nW a:Int)+5≤8 * (j2-j'):=g0;rw[Z1b];omega)
     rw[p1,p2]
     refine .inl ⟨n,rfl,?_⟩
     rw[Option.bind_some]
     dsimp only
     rw[Q0l (by simp only[List.length_cons,List.length_nil];omega),Option.bind_some]
     rw[Z5i vw m' (by omega)]
     exact Bad.mk g1 g2
theorem Z7o(ht:OkT T)(h:HW S T D b iw ww vw)(hiw:0≤iw)(hb:(T.length:Int)≤b){i:Int}(h1:iw≤i)(h2:i≤T.length):
 Wds S T i b (F257 ww S T D i) (F205 vw S T D i 0 0):=by
 rw[F257,F205]
 exact Z6b ht h hiw hb i T.length BIG BIG i [] h1 (Int.le_refl _) h2 (by omega) (by have:=ht.len;unfold BIG;omega) (by have:=ht.len;unfold BIG;omega) (by simp;omega) (by simp only[nWs];omega)
end
end Go.Abs.U48
namespace Go.Abs.U48
open Go Go.Proofs
abbrev Q8n:Str:=[99,97,115,101]
def stpT(e:Str)(T:List Token)(i:Int):Bool:=bif decide (e=[])then decide ((T.length:Int)≤i)else bif decide (e=Q8n)then csT T i||isT (tp T i) [125]else isT (tp T i) e
theorem V1p{t:Token}{s:Str}(h:isT t s=true)(hs:(decide (s=[36])||decide (s=[36,35])||decide (s=[40])||decide (s=[96])||decide (s=[33])||decide (s=[64])||decide (s=[123])||decide (c0 s=60)||decide (c0 s=62))=false):bC t=false:=by
 rw[isT,Bool.and_eq_true,decide_eq_true_eq,decide_eq_true_eq]at h
 simp only[Bool.or_eq_false_iff]at hs
 obtain⟨⟨⟨⟨⟨⟨⟨⟨h1,h2⟩,h3⟩,h4⟩,h5⟩,h6⟩,h7⟩,h8⟩,h9⟩:=hs
 have k1:decide (t.kind_=1)=false:=decide_eq_false (by rw[h.1];decide)
 have k4:decide (t.kind_=4)=false:=decide_eq_false (by rw[h.1];decide)
 simp only[bC,bW,bR,isT,h.2,k1,k4,h1,h2,h3,h4,h5,h6,h7,h8,h9,Bool.and_false,Bool.or_false]
theorem Z6j{t:Token}{s:Str}(h:keyT t s=true):t.kind_=1:=by
 rw[keyT,Bool.and_eq_true,Bool.and_eq_true,decide_eq_true_eq]at h
 exact h.1.1
theorem V4q{t:Token}{s:Str}(h:t.kind_≠2):isT t s=false:=by
 rw[isT,decide_eq_false h,Bool.false_and]
def Ends(c:Bool)(e:Str):Prop:=(c=true∧e=Q8n)∨(c=false∧(e=[]∨e=[125]∨e=[41]))
section
variable {S:Str}{T:List Token}{D:List Str}{b ic iw:Int}{wc:PCm}{vc:RCm}{ww:PWd}{vw:RWd}
theorem Z6z(e:Str)(x y:Int)(ht:OkT T){i:Int}(h0:0≤i)(h:i≤4611686018427387904):F56 e S T D i x y=some (stpT e T i):=by
 rw[F56,stpT]
 cases decide (e=[])with
 | true=>rfl
 | false=>
   simp only[Q0b]
   rw[V3o _ _ ht h0 h,Option.bind_some,Q1j _ _ _ h0,Option.bind_some,Q1j _ _ _ h0,Option.bind_some]
   show(bif decide (e=Q8n)then _ else _)=some (bif decide (e=Q8n)then _ else _)
   cases decide (e=Q8n)with
   | false=>rfl
   | true=>cases csT T i<;>rfl
theorem Z4r(c:Bool)(ht:OkT T){i:Int}(h0:0≤i)(h:i≤4611686018427387904):F81 c S T D i=some (!(c&&csT T i)&&bC (tp T i)):=by
 cases c with
 | false=>rw[K0v ht h0 h];rfl
 | true=>rw[Y1a ht h0 h];rfl
theorem J2w{c:Bool}{e:Str}(he:Ends c e){i:Int}(h0:0≤i)(h:(!(c&&csT T i)&&bC (tp T i))=true):stpT e T i=false:=by
 rw[Bool.and_eq_true,Bool.not_eq_true']at h
 have hk:∀s:Str,(decide (s=[36])||decide (s=[36,35])||decide (s=[40])||decide (s=[96])||decide (s=[33])||decide (s=[64])||decide (s=[123])||decide (c0 s=60)||decide (c0 s=62))=false→isT (tp T i) s=false:=by
  intro s hs
  cases hi:isT (tp T i) s with
  | false=>rfl
  | true=>rw[V1p hi hs]at h;cases h.2
 rcases he with⟨rfl,rfl⟩|⟨rfl,rfl|rfl|rfl⟩
 ·rw[stpT]
  simp only[Bool.true_and]at h
  rw[h.1,hk [125] (by decide)]
  rfl
 ·have hlt:i<T.length:=by
   rcases Int.lt_or_le i T.length with hl|hl
   ·exact hl
   rw[Q9t hl]at h
   exact absurd h.2 (by decide)
  rw[stpT]
  show decide ((T.length:Int)≤i)=false
  exact decide_eq_false (by omega)
 ·exact hk [125] (by decide)
 exact hk [41] (by decide)
theorem Z7c(e:Str)(vc:RCm)(m:Nat)(hm:0<m)(j n:Int)(l:List Cmd):iter (Q1z S T D e vc) m (j,47,n,l)=some ([],j,47,n):=by
 cases m with
 | zero=>omega
 | succ m=>
   show Q1z S T D e vc (iter (Q1z S T D e vc) m) (j,47,n,l)=_
   rw[Q1z]
   dsimp only
   rw[e47,Q0b]
def Lst(S:Str)(T:List Token)(c:Bool)(e:Str)(i b:Int)(p:Option (Int ⊕ (List Cmd×Int)))(r:Option (List Cmd×Int×Int×Int)):Prop:=
 (∃n,p=some (.inl n)∧Bad b n r)∨∃l j,p=some (.inr (l,j))∧i≤j∧j≤T.length∧(nCs l:Int)≤8 * (j-i)∧(c=true→keyT (tp T j) Q8n=true→csT T j=true)∧
   ((stpT e T j=true∧r=some (l,j,0,0))∨(stpT e T j=false∧Bad b (atf S T j) r))
theorem J4g(ht:OkT T)(e:Str)(vc:RCm)(m:Nat)(hm:0<m)(l:List Cmd)(hl:l.length≤2000000)(a:Cmd)(j n:Int)(h0:0≤j)(hj:j≤b)(hbb:b≤4000000000000000000):
 Bad (b+1) n ((F58 [38] S T D j 47 n).bind fun r36=>
  (bif r36 then
    (appO 104 l [Cmd.mk 14 a.at_ [] [] [] [a]]).bind fun out41=>
    iter (Q1z S T D e vc) m (IntKind.wrap .i64 (j+1),47,n,out41)
  else
   (appO 104 l [a]).bind fun out44=>
   (F56 e S T D j 47 n).bind fun r47=>
   (bif decide (e=[99,97,115,101])then
     (F58 [125] S T D j 47 n).bind fun r67=>
     Q8z S T D j 47 n (iter (Q1z S T D e vc) m) out44 r67
   else
    Q8z S T D j 47 n (iter (Q1z S T D e vc) m) out44 r47))):=by
 rw[Q1j _ _ _ h0,Option.bind_some]
 cases isT (tp T j) [38]with
 | true=>
   rw[Q0c,Q0l (by simp only[List.length_cons,List.length_nil];omega),Option.bind_some,Z7c e vc m hm,wr1 h0 (by omega)]
   exact Bad.mk (by omega) (by omega)
 | false=>
   rw[Q0b,Q0l (by simp only[List.length_cons,List.length_nil];omega),Option.bind_some,Z6z _ _ _ ht h0 (by omega),Option.bind_some,Q1j _ _ _ h0,Option.bind_some]
   have hj3:∀q:Bool,Q8z S T D j 47 n (iter (Q1z S T D e vc) m) (l++[a]) q=some ([],j,47,n):=by
    intro q
    obtain⟨t,et,-⟩:=Q2e (S:=S) (T:=T) (D:=D) 47 n h0
    rw[Q8z,et,Option.bind_some,Q1j _ _ _ h0,Option.bind_some,J5d,Option.bind_some]
    dsimp only
    rw[Z7c e vc m hm]
    cases !decide (t.kind_=3)<;>cases(!isT (tp T j) [59]&&!q)<;>rfl
   rw[hj3,hj3]
   cases decide (e=[99,97,115,101])<;>exact Bad.mk h0 (by omega)
theorem Z4a(ht:OkT T)(h:HC S T D b ic wc vc)(hic:0≤ic)(hb:(T.length:Int)≤b)(hbb:b≤4000000000000000000){c:Bool}{e:Str}(he:Ends c e)(i0:Int):
 ∀ (k m m':Nat) (x j:Int) (l:List Cmd),ic≤x→x≤j→i0≤x→j≤T.length→(∀D' y z,F55 S T D' x y z=some j)→gapT (tp T j)=false→(T.length:Int)≤j+k→k<m→k+1<m'→(l.length:Int)≤j→(nCs l:Int)≤8 * (x-i0)→
 Lst S T c e i0 (b+1) (iter (Z7a c S T D wc) m (j,l)) (iter (Q1z S T D e vc) m' (x,0,0,l))
 | k,0,_,_,_,_,_,_,_,_,_,_,_,hm,_,_,_=>absurd hm (Nat.not_lt_zero _)
 | k,_,0,_,_,_,_,_,_,_,_,_,_,_,hm,_,_=>absurd hm (Nat.not_lt_zero _)
 | k,m+1,m'+1,x,j,l,h1,hxj,hi,h2,hx,hg,h3,h4,h5,hll,hN=>by
   have hT:=ht.len
   have h0:0≤j:=by omega
   show Lst _ _ _ _ _ _ (Z7a c S T D wc (iter (Z7a c S T D wc) m) (j,l)) (Q1z S T D e vc (iter (Q1z S T D e vc) m') (x,0,0,l))
   rw[Z7a,Q1z]
   dsimp only
   rw[Z4r c ht h0 (by omega),Option.bind_some,e00,Q0c,hx,Option.bind_some,Z6z e _ _ ht h0 (by omega),Option.bind_some]
   have hc:=X4s ht h hic hb c (i:=j) (by omega) h2
   cases hbg:(!(c&&csT T j)&&bC (tp T j))with
   | false=>
     rw[Q0b]
     refine .inr ⟨l,j,rfl,by omega,h2,by omega,fun hc1 hk=>?_,?_⟩
     ·cases hcs:csT T j with
      | true=>rfl
      | false=>
        rw[hcs,Bool.and_false,Bool.not_false,Bool.true_and,bC,bW,Z6j hk]at hbg
        cases hbg
     cases hs:stpT e T j with
     | true=>exact .inl ⟨rfl,by rw[Q0c]⟩
     | false=>
       refine .inr ⟨rfl,?_⟩
       rw[Q0b]
       have hbc:bC (tp T j)=false:=by
        cases hbc:bC (tp T j)with
        | false=>rfl
        | true=>
          rw[hbc,Bool.and_true,Bool.not_eq_false',Bool.and_eq_true]at hbg
          rcases he with⟨rfl,rfl⟩|⟨rfl,-⟩
          ·rw[stpT,hbg.2]at hs
           cases hs
          cases hbg.1
       have hpn:F131 wc c S T D j=some (.inl (atf S T j)):=by
        rw[F131,F167,h.no c j (by omega) h2 hbc]
        rfl
       refine Bad.bind (hc.of_no hpn) (fun a j2 g1 g2=>?_)
       dsimp only
       exact J4g ht e vc m' (by omega) l (by omega) a j2 _ g1 g2 hbb
   | true=>
     rw[Q0c,J2w he h0 hbg,Q0b]
     rcases hc with⟨a,j1,p1,p2,⟨hka,hka2⟩,g1,g2⟩|⟨n,a,j1,p1,p2,g1,g2⟩
     ·rw[F82,p1,p2]
      show Lst _ _ _ _ _ _ (Q0g ((F132 [38] S T D j1).bind _) _) _
      rw[Q6v _ (by omega) (by omega),Option.bind_some,Option.bind_some]
      dsimp only
      rw[Q1j _ _ _ (by omega),Option.bind_some]
      cases k with
      | zero=>omega
      | succ k=>
      cases hamp:isT (tp T j1) [38]with
      | true=>
        have hlt:=Q2v hamp (by omega)
        simp only[Q0c]
        show Lst _ _ _ _ _ _ ((appO 104 l [Cmd.mk 14 a.at_ [] [] [] [a]]).bind _) _
        rw[Q0l (by simp only[List.length_cons,List.length_nil];omega),Option.bind_some,Option.bind_some]
        obtain⟨j2,q1,q2,q3,q4,q5,q6,q7⟩:=Q7n (S:=S) ht (i:=j1+1) (by omega) (by omega)
        rw[q1,Option.bind_some]
        dsimp only
        rw[decide_eq_true rfl,Bool.or_true,Q0c,wr1 (by omega) (by omega)]
        exact Z4a ht h hic hb hbb he i0 k m m' (j1+1) j2 _ (by omega) q3 (by omega) (by omega) q2 q5 (by omega) (by omega) (by omega) (by simp;omega) (by rw[Q7g,Q3d (Cmd.mk _ _ _ _ _ _)];simp only[nWs,nCs,nRs];omega)
      | false=>
        simp only[Q0b]
        show Lst _ _ _ _ _ _ ((appO 104 l [a]).bind _) _
        rw[Q0l (by simp only[List.length_cons,List.length_nil];omega),Option.bind_some,Option.bind_some]
        obtain⟨j2,q1,q2,q3,q4,q5,q6,q7⟩:=Q7n (S:=S) ht (i:=j1) (by omega) (by omega)
        rw[q1,Option.bind_some]
        dsimp only
        rw[decide_eq_false (show ¬ a.kind_=14 from hka),Bool.or_false,Z6z e _ _ ht (by omega) (by omega),Option.bind_some,Q1j _ _ _ (by omega),Option.bind_some]
        have hj3:∀q:Bool,Q8z S T D j1 0 0 (iter (Q1z S T D e vc) m') (l++[a]) q=(bif gapT (tp T j1)||q then iter (Q1z S T D e vc) m' (j1,0,0,l++[a])else some ([],j1,47,atf S T j1)):=by
         intro q
         obtain⟨t,et,k1,-⟩:=Q2e (S:=S) (T:=T) (D:=D) 0 0 (show 0≤j1 by omega)
         rw[Q8z,et,Option.bind_some,Q1j _ _ _ (by omega),Option.bind_some,Z0s _ (by omega),Option.bind_some,k1,gapT]
         dsimp only
         rw[Z7c e vc m' (by omega)]
         cases decide ((tp T j1).kind_=3)<;>cases isT (tp T j1) [59]<;>cases q<;>rfl
        rw[hj3,hj3]
        cases hgj:gapT (tp T j1)with
        | true=>
          rw[Q0c,Bool.true_or,Q0c,Bool.true_or,Q0c]
          have:=Z4a ht h hic hb hbb he i0 k m m' j1 j2 (l++[a]) (by omega) q3 (by omega) (by omega) q2 q5 (by have:=q6 hgj;omega) (by omega) (by omega) (by simp;omega) (by rw[Q7g];omega)
          cases decide (e=[99,97,115,101])<;>exact this
        | false=>
          have hj2:=q7 hgj
          subst hj2
          rw[Q0b,Bool.false_or,Bool.false_or]
          have fin:∀q:Bool,(q=true→stpT e T j2=true)→(q=false→stpT e T j2=false)→(c=true→keyT (tp T j2) Q8n=true→csT T j2=true)→
           Lst S T c e i0 (b+1) (some (.inr (l++[a],j2))) (bif q then iter (Q1z S T D e vc) m' (j2,0,0,l++[a])else some ([],j2,47,atf S T j2)):=by
           intro q hq1 hq2 hq3
           refine .inr ⟨_,j2,rfl,by omega,g2,by rw[Q7g];omega,hq3,?_⟩
           cases q with
           | true=>
             refine .inl ⟨hq1 rfl,?_⟩
             rw[Q0c]
             cases m' with
             | zero=>omega
             | succ m'=>
               show Q1z S T D e vc (iter (Q1z S T D e vc) m') (j2,0,0,l++[a])=_
               rw[Q1z]
               dsimp only
               rw[e00,Q0c,q2,Option.bind_some,Z6z e _ _ ht (by omega) (by omega),Option.bind_some,hq1 rfl,Q0c]
           | false=>
             refine .inr ⟨hq2 rfl,?_⟩
             rw[Q0b]
             exact Bad.mk (by omega) (by omega)
          rcases he with⟨rfl,rfl⟩|⟨rfl,he⟩
          ·rw[Q0c,Q1q (by omega) (by omega),Option.bind_some,Z4z (ht.tl _).1,Option.bind_some,Q3q (by kernel_rfl),decide_eq_true rfl,Q0c]
           cases hk:keyT (tp T j2) Q8n with
           | true=>
             rw[Q0c,Q7x (by omega),V4q (by rw[Z6j hk];decide),Q0b]
             exact .inl ⟨_,rfl,Bad.mk (by omega) (by omega)⟩
           | false=>
             rw[Q0b]
             have hcs:csT T j2=false:=by rw[csT,show keyT (tp T j2) [99,97,115,101]=false from hk];rfl
             refine fin _ (fun hq=>?_) (fun hq=>?_) (fun _ hk'=>absurd (hk.symm.trans hk') (by decide))
             ·rw[stpT,hcs,hq]
              rfl
             rw[stpT,hcs,hq]
             rfl
          rw[Q0b]
          have hne:decide (e=[99,97,115,101])=false:=by rcases he with rfl|rfl|rfl<;>rfl
          rw[hne,Q0b]
          exact fin _ (fun hq=>hq) (fun hq=>hq) (fun hc=>by cases hc)
     rw[F82,p1,p2]
     refine .inl ⟨n,rfl,?_⟩
     rw[Option.bind_some]
     dsimp only
     exact J4g ht e vc m' (by omega) l (by omega) a j1 _ g1 g2 hbb
theorem J2i(ht:OkT T)(h:HC S T D b ic wc vc)(hic:0≤ic)(hb:(T.length:Int)≤b)(hbb:b≤4000000000000000000){c:Bool}{e:Str}(he:Ends c e){i:Int}(h1:ic≤i)(h2:i≤T.length):
 Lst S T c e i (b+1) (F47 wc c S T D i) (F24 vc e S T D i 0 0):=by
 have hT:=ht.len
 obtain⟨j,q1,q2,q3,q4,q5,q6,q7⟩:=Q7n (S:=S) ht (i:=i) (by omega) (by omega)
 rw[F47,F24,q1,Option.bind_some]
 exact Z4a ht h hic hb hbb he i T.length BIG BIG i j [] h1 q3 (Int.le_refl _) (by omega) q2 q5 (by omega) (by unfold BIG;omega) (by unfold BIG;omega) (by simp;omega) (by simp only[nCs];omega)
end
end Go.Abs.U48
namespace Go.Abs.U48
open Go Go.Proofs
section
variable {S:Str}{T:List Token}{D:List Str}{b ic iw:Int}{wc:PCm}{vc:RCm}{ww:PWd}{vw:RWd}{i j n:Int}
theorem J3z(h:plT (tp T i)=true)(h0:0≤i):i<T.length:=by
 rw[plT,Bool.and_eq_true,decide_eq_true_eq]at h
 exact J1p (by rw[h.1];decide) h0
theorem J5j(ht:OkT T)(h0:0≤i)(h:i≤4000000000000000000)(hn:(plT (tp T i)&&Q5n (tp T i).text_)=true):F256 S T D i=some (.inr ((tp T i).text_,i+1)):=by
 rw[Bool.and_eq_true]at hn
 rw[F256,Q1q h0 (by omega),Option.bind_some,Z5o,Option.bind_some,hn.1,Q0f,J3i _ (by have:=(ht.tl i).1;omega),Option.bind_some,hn.2,wr1 h0 (by omega)]
 rfl
theorem J5k(ht:OkT T)(h0:0≤i)(h:i≤4000000000000000000)(hn:(plT (tp T i)&&Q5n (tp T i).text_)=false):F256 S T D i=some (.inl (atf S T i)):=by
 rw[F256,Q1q h0 (by omega),Option.bind_some,Z5o,Option.bind_some]
 cases hp:plT (tp T i)with
 | false=>
   rw[Q1p,Option.bind_some,Q7x h0]
   rfl
 | true=>
   rw[hp,Bool.true_and]at hn
   rw[Q0f,J3i _ (by have:=(ht.tl i).1;omega),Option.bind_some,hn,Q7x h0]
   rfl
theorem J3f(ht:OkT T)(x y:Int)(h0:0≤i)(h:i≤4000000000000000000):F173 S T D i x y=
 (bif plT (tp T i)&&Q5n (tp T i).text_ then some ((tp T i).text_,i+1,x,y)else(F60 S T D i x y).bind fun(x22,x23)=>some ((tp T i).text_,i+1,x22,x23)):=by
 obtain⟨t,e,h1,h2,h3,-⟩:=Q2e (S:=S) (T:=T) (D:=D) x y h0
 rw[F173,e,Option.bind_some,h1,h2,h3,plT,wr1 h0 (by omega)]
 cases decide ((tp T i).kind_=1)with
 | false=>rfl
 | true=>
   rw[Q0f,Z1r _ (by have:=(ht.tl i).2.1;omega),Option.bind_some]
   cases Q2k (tp T i).quoted_ with
   | true=>rfl
   | false=>
     simp only[Bool.not_true,Bool.or_false,Bool.not_false,Q0f]
     rw[X2t _ (by have:=(ht.tl i).1;omega),Option.bind_some]
     cases Q5n (tp T i).text_<;>rfl
theorem J1i(ht:OkT T)(h0:0≤i)(h:i≤4000000000000000000)(hn:(plT (tp T i)&&Q5n (tp T i).text_)=true):F173 S T D i 0 0=some ((tp T i).text_,i+1,0,0):=by
 rw[J3f ht _ _ h0 h,hn,Q0c]
theorem J5n(ht:OkT T)(h0:0≤i)(h:i≤4000000000000000000)(hn:(plT (tp T i)&&Q5n (tp T i).text_)=false):F173 S T D i 0 0=some ((tp T i).text_,i+1,47,atf S T i):=by
 rw[J3f ht _ _ h0 h,hn,Q0b,Z0s _ h0]
 rfl
theorem X2s(ht:OkT T)(h0:0≤i)(h:i≤4000000000000000000):F173 S T D i 47 n=some ((tp T i).text_,i+1,47,n):=by
 rw[J3f ht _ _ h0 h,J5d]
 cases plT (tp T i)&&Q5n (tp T i).text_<;>rfl
theorem Q4o{s:Str}(h0:0≤i)(h:i≤4000000000000000000)(hs:isT (tp T i) s=true):F255 s S T D i=some (.inr ((tp T i).at_,i+1)):=by
 rw[F255,Q1q h0 (by omega),Option.bind_some,Q6v _ h0 (by omega),hs]
 rfl
theorem Q6y{s:Str}(h0:0≤i)(h:i≤4000000000000000000)(hs:isT (tp T i) s=false):F255 s S T D i=some (.inl (atf S T i)):=by
 rw[F255,Q1q h0 (by omega),Option.bind_some,Q6v _ h0 (by omega),hs,Option.bind_some]
 simp only[Bool.not_false,Q0c,Q0b]
 rw[Q7x h0]
 rfl
theorem Z5k{s:Str}(h0:0≤i)(h:i≤4000000000000000000)(hs:isT (tp T i) s=true):F174 s S T D i 0 0=some (i+1,0,0):=by
 rw[F174,Q1j _ _ _ h0,Option.bind_some,hs,wr1 h0 (by omega)]
 rfl
theorem J1h{s:Str}(h0:0≤i)(h:i≤4000000000000000000)(hs:isT (tp T i) s=false):F174 s S T D i 0 0=some (i+1,47,atf S T i):=by
 rw[F174,Q1j _ _ _ h0,Option.bind_some,hs,wr1 h0 (by omega),Z0s _ h0]
 rfl
theorem Q9o(s:Str)(h0:0≤i)(h:i≤4000000000000000000):F174 s S T D i 47 n=some (i+1,47,n):=by
 rw[F174,Q1j _ _ _ h0,Option.bind_some,wr1 h0 (by omega),J5d]
 cases isT (tp T i) s<;>rfl
def Bad7(b n:Int)(r:Option (Int×Int×Str×(List Cmd)×Int×Int×Int)):Prop:=∃k a nm l j,r=some (k,a,nm,l,j,47,n)∧0≤j∧j≤b
theorem X2q(vc:RCm)(s e:Str)(h0:0≤i)(h:i≤3000000000000000000):∃a,F177 vc s e S T D i 47 n=some (12,a,[],[],i+2,47,n):=by
 obtain⟨t,et,-⟩:=Q2e (S:=S) (T:=T) (D:=D) 47 n h0
 refine⟨t.at_,?_⟩
 rw[F177,et,Option.bind_some,Q9o _ h0 (by omega),Option.bind_some]
 dsimp only
 rw[F24,Z7c e vc BIG (by unfold BIG;omega),Option.bind_some]
 dsimp only
 rw[Q9o _ (by omega) (by omega),Option.bind_some]
 simp only[Int.add_assoc]
 rfl
theorem X6m(ht:OkT T)(h:HC S T D b ic wc vc)(hic:0≤ic)(hb:(T.length:Int)≤b)(hbb:b≤3000000000000000000){s e:Str}(he:e=[125]∨e=[41])(h1:ic≤i+1)(h0:0≤i)(h2:i≤T.length):
 (isT (tp T i) s=false∧Bad7 (b+3) (atf S T i) (F177 vc s e S T D i 0 0)) ∨
 (isT (tp T i) s=true∧∃n,F47 wc false S T D (i+1)=some (.inl n)∧Bad7 (b+3) n (F177 vc s e S T D i 0 0)) ∨
 (isT (tp T i) s=true∧∃l j,F47 wc false S T D (i+1)=some (.inr (l,j))∧i+1≤j∧j≤T.length∧(nCs l:Int)≤8 * (j-(i+1))∧
   ((isT (tp T j) e=false∧Bad7 (b+3) (atf S T j) (F177 vc s e S T D i 0 0))∨(isT (tp T j) e=true∧j<T.length∧F177 vc s e S T D i 0 0=some (12,(tp T i).at_,[],l,j+1,0,0)))):=by
 have hT:=ht.len
 have hE:Ends false e:=.inr ⟨rfl,by rcases he with rfl|rfl<;>simp⟩
 have hst:∀j,stpT e T j=isT (tp T j) e:=by
  intro j
  rcases he with rfl|rfl<;>rfl
 cases hs:isT (tp T i) s with
 | false=>
   refine .inl ⟨rfl,?_⟩
   obtain⟨t,et,-⟩:=Q2e (S:=S) (T:=T) (D:=D) 0 0 h0
   rw[F177,et,Option.bind_some,J1h h0 (by omega) hs,Option.bind_some]
   dsimp only
   rw[F24,Z7c e vc BIG (by unfold BIG;omega),Option.bind_some]
   dsimp only
   rw[Q9o _ (by omega) (by omega),Option.bind_some]
   exact⟨_,_,_,_,_,rfl,by omega,by omega⟩
 | true=>
   have hlt:=Q2v hs h0
   refine .inr ?_
   have hl:=J2i ht h hic hb (by omega) hE (i:=i+1) h1 (by omega)
   have hF:F177 vc s e S T D i 0 0=(F24 vc e S T D (i+1) 0 0).bind fun(r26,x27,x28,x29)=>
    (F174 e S T D x27 x28 x29).bind fun(x33,x34,x35)=>some ((12:Int),(tp T i).at_,([]:Str),r26,x33,x34,x35):=by
    rw[F177,Z5b 0 0 h0 hlt,Option.bind_some,Z5k h0 (by omega) hs,Option.bind_some]
   have bad:∀n,Bad (b+1) n (F24 vc e S T D (i+1) 0 0)→Bad7 (b+3) n (F177 vc s e S T D i 0 0):=by
    intro n ⟨a,j,ej,g1,g2⟩
    rw[hF,ej,Option.bind_some]
    dsimp only
    rw[Q9o _ g1 (by omega),Option.bind_some]
    exact⟨_,_,_,_,_,rfl,by omega,by omega⟩
   rcases hl with⟨n,e1,e2⟩|⟨l,j,e1,g1,g2,g4,-,⟨q1,q2⟩|⟨q1,q2⟩⟩
   ·exact .inl ⟨rfl,n,e1,bad n e2⟩
   ·refine .inr ⟨rfl,l,j,e1,g1,g2,g4,.inr ?_⟩
    rw[hst]at q1
    refine⟨q1,Q2v q1 (by omega),?_⟩
    rw[hF,q2,Option.bind_some]
    dsimp only
    rw[Z5k (by omega) (by omega) q1,Option.bind_some]
   rw[hst]at q1
   exact .inr ⟨rfl,l,j,e1,g1,g2,g4,.inl ⟨q1,bad _ q2⟩⟩
theorem Z4q(ht:OkT T)(h:HC S T D b ic wc vc)(hic:0≤ic)(hb:(T.length:Int)≤b)(hbb:b≤3000000000000000000)(h1:ic≤i+1)(h0:0≤i)(h2:i≤T.length):
 (∃n,F253 wc S T D i=some (.inl n)∧Bad7 (b+3) n (F177 vc [123] [125] S T D i 0 0)) ∨
 ∃l j,F253 wc S T D i=some (.inr (l,j))∧i+2≤j∧(nCs l:Int)+16≤8 * (j-i)∧j≤T.length∧isT (tp T i) [123]=true∧F177 vc [123] [125] S T D i 0 0=some (12,(tp T i).at_,[],l,j,0,0):=by
 have hT:=ht.len
 rw[F253]
 rcases X6m (s:=[123]) (e:=[125]) ht h hic hb hbb (.inl rfl) h1 h0 h2 with⟨e1,e2⟩|⟨e1,n,e2,e3⟩|⟨e1,l,j,e2,g1,g2,g5,⟨e3,e4⟩|⟨e3,g3,e4⟩⟩
 ·exact .inl ⟨_,by rw[Q6y h0 (by omega) e1];rfl,e2⟩
 ·refine .inl ⟨n,?_,e3⟩
  rw[Q4o h0 (by omega) e1]
  show Q0g (F47 wc false S T D (i+1)) _=_
  rw[e2]
  rfl
 ·refine .inl ⟨_,?_,e4⟩
  rw[Q4o h0 (by omega) e1]
  show Q0g (F47 wc false S T D (i+1)) _=_
  rw[e2]
  show Q0g (F255 [125] S T D j) _=_
  rw[Q6y (by omega) (by omega) e3]
  rfl
 refine .inr ⟨l,j+1,?_,by omega,by omega,by omega,e1,e4⟩
 rw[Q4o h0 (by omega) e1]
 show Q0g (F47 wc false S T D (i+1)) _=_
 rw[e2]
 show Q0g (F255 [125] S T D j) _=_
 rw[Q4o (by omega) (by omega) e3]
 rfl
theorem Z7d(vw:RWd)(m:Nat)(hm:0<m)(j n:Int)(l:List Word):iter (Q3c S T D vw) m (j,47,n,l)=some (l,j,47,n):=by
 cases m with
 | zero=>omega
 | succ m=>
   show Q3c S T D vw (iter (Q3c S T D vw) m) (j,47,n,l)=_
   rw[Q3c]
   dsimp only
   rw[e47,Q0b]
theorem Z9k(ht:OkT T)(h:HW S T D b iw ww vw)(hiw:0≤iw)(hb:(T.length:Int)≤b)(r7:Token)(wc:PCm)(i0:Int):
 ∀ (k m m' m2:Nat) (j:Int) (l:List Word),iw≤j→j≤T.length→(T.length:Int)≤j+k→k<m→k+1<m'→k<m2→(l.length:Int)≤j→(nWs l:Int)≤8 * (j-i0)→
 (∃n,iter (Q5q S T D ww r7) m (j,l)=some (.inl n)∧iter (Q3f S T D ww wc r7) m2 (j,l)=some (.inl n)∧Bad b n (iter (Q3c S T D vw) m' (j,0,0,l))) ∨
 (∃l' j' q,iter (Q3c S T D vw) m' (j,0,0,l)=some (l',j',0,0)∧j≤j'∧j'≤T.length∧(bW (tp T j')=false∧(nWs l':Int)≤8 * (j'-i0))∧
   iter (Q5q S T D ww r7) m (j,l)=some (.inr (Cmd.mk 16 r7.at_ [] l' [] [],j'))∧iter (Q3f S T D ww wc r7) m2 (j,l)=Q3f S T D ww wc r7 q (j',l'))
 | k,0,_,_,_,_,_,_,_,hm,_,_,_,_=>absurd hm (Nat.not_lt_zero _)
 | k,_,0,_,_,_,_,_,_,_,hm,_,_,_=>absurd hm (Nat.not_lt_zero _)
 | k,_,_,0,_,_,_,_,_,_,_,hm,_,_=>absurd hm (Nat.not_lt_zero _)
 | k,m+1,m'+1,m2+1,j,l,h1,h2,h3,h4,h5,h6,hll,hN=>by
   have hT:=ht.len
   have h0:0≤j:=by omega
   have s1:iter (Q3c S T D vw) (m'+1) (j,0,0,l)=(bif bW (tp T j)then(vw S T D j 0 0).bind fun(r30,r31,r32,r33)=>(appO 88 l [r30]).bind fun out37=>iter (Q3c S T D vw) m' (r31,r32,r33,out37)else some (l,j,0,0)):=by
    show Q3c S T D vw (iter (Q3c S T D vw) m') (j,0,0,l)=_
    rw[Q3c]
    dsimp only
    rw[e00,Q0c,Z5j _ _ h0,Option.bind_some]
   have s2:iter (Q5q S T D ww r7) (m+1) (j,l)=(bif bW (tp T j)then Q0g (ww S T D j) fun(r32,r33)=>(appO 88 l [r32]).bind fun out40=>iter (Q5q S T D ww r7) m (r33,out40)else some (.inr (Cmd.mk 16 r7.at_ [] l [] [],j))):=by
    show Q5q S T D ww r7 (iter (Q5q S T D ww r7) m) (j,l)=_
    rw[Q5q]
    dsimp only
    rw[Q1q h0 (by omega),Option.bind_some,Q4u,Option.bind_some]
   have s3:∀q,Q3f S T D ww wc r7 q (j,l)=(bif bW (tp T j)then Q0g (ww S T D j) fun(r32,r33)=>(appO 88 l [r32]).bind fun out40=>q (r33,out40)else Q3f S T D ww wc r7 q (j,l)):=by
    intro q
    cases hw:bW (tp T j)with
    | false=>rw[Q0b]
    | true=>
      rw[Q0c,Q3f]
      dsimp only
      rw[Q1q h0 (by omega),Option.bind_some,Q4u,Option.bind_some,hw,Q0c]
   have s3':iter (Q3f S T D ww wc r7) (m2+1) (j,l)=Q3f S T D ww wc r7 (iter (Q3f S T D ww wc r7) m2) (j,l):=rfl
   rw[s1,s2,s3']
   cases hw:bW (tp T j)with
   | false=>exact .inr ⟨l,j,_,rfl,Int.le_refl _,h2,⟨hw,hN⟩,rfl,rfl⟩
   | true=>
     rw[s3,hw,Q0c,Q0c,Q0c]
     have hlt:j<T.length:=by
      rcases Int.lt_or_le j T.length with hl|hl
      ·exact hl
      rw[Q9t hl]at hw
      exact absurd hw (by decide)
     rcases h.ag j h1 h2 with⟨a,j2,p1,p2,g0,g1,g2⟩|⟨n,a,j2,p1,p2,g1,g2⟩
     ·rw[p1,p2,Option.bind_some]
      show(∃n,(appO 88 l [a]).bind _=_∧(appO 88 l [a]).bind _=_∧Bad b n ((appO 88 l [a]).bind _))∨∃l' j' q,(appO 88 l [a]).bind _=_∧_∧_∧_∧(appO 88 l [a]).bind _=_∧(appO 88 l [a]).bind _=_
      rw[Q0l (by simp only[List.length_cons,List.length_nil];omega),Option.bind_some,Option.bind_some,Option.bind_some]
      cases k with
      | zero=>omega
      | succ k=>
        rcases Z9k ht h hiw hb r7 wc i0 k m m' m2 j2 (l++[a]) (by omega) g2 (by omega) (by omega) (by omega) (by omega) (by simp;omega) (by have:(nW a:Int)+5≤8 * (j2-j):=g0;rw[Z1b];omega)with hh|⟨l',j',q,q1,q2,q3,q4,q5,q6⟩
        ·exact .inl hh
        exact .inr ⟨l',j',q,q1,by omega,q3,q4,q5,q6⟩
     rw[p1,p2,Option.bind_some]
     refine .inl ⟨n,rfl,rfl,?_⟩
     dsimp only
     rw[Q0l (by simp only[List.length_cons,List.length_nil];omega),Option.bind_some,Z7d vw m' (by omega)]
     exact Bad.mk g1 g2
end
end Go.Abs.U48
namespace Go.Abs.U48
open Go Go.Proofs
section
variable {S:Str}{T:List Token}{D:List Str}{b ic iw:Int}{wc:PCm}{vc:RCm}{ww:PWd}{vw:RWd}{i j n:Int}
theorem K0d(h:bW (tp T i)=true)(h0:0≤i):i<T.length:=by
 rcases Int.lt_or_le i T.length with hl|hl
 ·exact hl
 rw[Q9t hl]at h
 exact absurd h (by decide)
theorem J8h(ht:OkT T)(h:HW S T D b iw ww vw)(hiw:0≤iw)(hb:(T.length:Int)≤b)(wc:PCm)(h0:0≤i)(h1:iw≤i+1)(h2:i<T.length):
 (∃n,F230 ww S T D i=some (.inl n)∧F258 wc ww S T D i=some (.inl n)∧Bad b n (F206 vw S T D (i+1) 0 0)) ∨
 (∃l j,F206 vw S T D (i+1) 0 0=some (l,j,0,0)∧i+1<j∧j≤T.length∧(bW (tp T j)=false∧(nWs l:Int)≤8 * (j-(i+1)))∧F230 ww S T D i=some (.inr (Cmd.mk 16 (tp T i).at_ [] l [] [],j))∧
   F258 wc ww S T D i=(F80 S T D j).bind fun(r43,x44)=>(bif r43 then Q0g (F47 wc true S T D x44) fun(r49,x50)=>some (.inr (Cmd.mk 18 (tp T i).at_ [] l [] r49,x50))else some (.inr (Cmd.mk 18 (tp T i).at_ [] l [] [],x44)))):=by
 have hT:=ht.len
 rw[F230,F258,F206,Q1q h0 (by omega),Option.bind_some,Option.bind_some,wr1 h0 (by omega)]
 rcases h.ag (i+1) h1 (by omega)with⟨a,j,p1,p2,g0,g1,g2⟩|⟨n,a,j,p1,p2,g1,g2⟩
 ·have g0:(nW a:Int)+5≤8 * (j-(i+1)):=g0
  rw[p1,p2,Option.bind_some]
  have e1:∀ {β:Type} (f:Word×Int→Option (Int ⊕ β)),Q0g (some (.inr (a,j))) f=f (a,j):=fun _=>rfl
  rw[e1,e1]
  dsimp only
  rw[e00,Q0c,Q1q (by omega) (by omega),Option.bind_some,Option.bind_some,Q4u,Option.bind_some,Option.bind_some,Z5j _ _ (by omega),Option.bind_some]
  cases hw:bW (tp T j)with
  | false=>exact .inr ⟨[a],j,rfl,by omega,g2,⟨hw,by simp only[nWs];omega⟩,rfl,rfl⟩
  | true=>
    have hlt:=K0d hw (by omega)
    rw[Q0c,Q0c,Q0c]
    rcases h.ag j (by omega) g2 with⟨a2,j2,p3,p4,g0',g3,g4⟩|⟨n,a2,j2,p3,p4,g3,g4⟩
    ·have g0':(nW a2:Int)+5≤8 * (j2-j):=g0'
     rw[p3,p4,Option.bind_some]
     have e2:∀ {β:Type} (f:Word×Int→Option (Int ⊕ β)),Q0g (some (.inr (a2,j2))) f=f (a2,j2):=fun _=>rfl
     rw[e2,e2]
     dsimp only
     rw[Q0l (by simp only[List.length_cons,List.length_nil];omega),Option.bind_some,Option.bind_some,Option.bind_some]
     rcases Z9k ht h hiw hb (tp T i) wc (i+1) T.length BIG BIG BIG j2 ([a]++[a2]) (by omega) g4 (by omega) (by unfold BIG;omega) (by unfold BIG;omega) (by unfold BIG;omega) (by simp only[List.length_append,List.length_cons,List.length_nil];omega) (by rw[Z1b];simp only[nWs];omega)with⟨n,q1,q2,q3⟩|⟨l',j',q,q1,q2,q3,q4,q5,q6⟩
     ·exact .inl ⟨n,q1,q2,q3⟩
     refine .inr ⟨l',j',q1,by omega,q3,q4,q5,?_⟩
     rw[q6,Q3f]
     dsimp only
     rw[Q1q (by omega) (by omega),Option.bind_some,Q4u,Option.bind_some,q4.1,Q0b]
    rw[p3,p4,Option.bind_some]
    refine .inl ⟨n,rfl,rfl,?_⟩
    dsimp only
    rw[Q0l (by simp only[List.length_cons,List.length_nil];omega),Option.bind_some,Z7d vw BIG (by unfold BIG;omega)]
    exact Bad.mk g3 g4
 rw[p1,p2,Option.bind_some]
 refine .inl ⟨n,rfl,rfl,?_⟩
 dsimp only
 rw[e47,Q0b]
 exact Bad.mk g1 g2
theorem K2l(ht:OkT T)(h:HC S T D b ic wc vc)(hb:(T.length:Int)≤b)(c:Bool)(at_ k:Int)(l:List Cmd)(hl:l.length≤10)(hk:k≠14){i0:Int}(hN:(nCs l:Int)+1≤8 * (j-i0))(hi:i0<j)(h0:0≤j)(h1:ic≤j)(h2:j≤T.length):
 Ag (Kc i0) T.length (i0+1) (b+6) ((F168 S T D j).bind fun x=>Q0g (wc c S T D x) fun(a,j2)=>some (.inr (Cmd.mk k at_ [] [] [] (l++[a]),j2))) (Q3s S T D vc at_ [] [] (j,0,0,k,l)):=by
 have hT:=ht.len
 obtain⟨j',e1,e2,e3,e4,e5⟩:=Q6f (S:=S) ht (i:=j) (by omega) (by omega)
 rw[Q3s]
 dsimp only
 rw[e1,Option.bind_some,e2,Option.bind_some]
 refine Ag.bind (h.ag c j' (by omega) (by omega)) (fun a j2 g0 g1 g2=>?_) (fun n a j2 g1 g2=>?_)
 ·dsimp only
  rw[Q0l (by simp only[List.length_cons,List.length_nil];omega),Option.bind_some]
  exact Ag.ok ⟨show k≠14 from hk,by have:=g0.2;rw[Q3d];simp only[nWs,nRs,Q7g];omega⟩ (by omega) g2
 dsimp only
 rw[Q0l (by simp only[List.length_cons,List.length_nil];omega),Option.bind_some]
 exact Bad.mk g1 (by omega)
theorem V4p(ht:OkT T)(h:HC S T D b ic wc vc)(hb:(T.length:Int)≤b)(hbb:b≤3000000000000000000)(at_ k:Int)(l:List Cmd)(hl:l.length≤10)(h0:0≤j)(h2:j≤b+4):
 Bad (b+6) n (Q3s S T D vc at_ [] [] (j,47,n,k,l)):=by
 have hT:=ht.len
 obtain⟨j',e1,e2,e3,e4,e5⟩:=Q6f (S:=S) ht (i:=j) (by omega) (by omega)
 obtain⟨a,ea⟩:=h.on j' n (by omega)
 rw[Q3s]
 dsimp only
 rw[e2,Option.bind_some,ea,Option.bind_some]
 dsimp only
 rw[Q0l (by simp only[List.length_cons,List.length_nil];omega),Option.bind_some]
 exact Bad.mk (by omega) (by omega)
theorem K1x(ht:OkT T)(h:HC S T D b ic wc vc)(hb:(T.length:Int)≤b)(c:Bool)(h0:0≤i)(h1:ic≤i+1)(h2:i+1<T.length):
 Ag (Kc i) T.length (i+1) (b+6) (F224 wc 9 2 c S T D i) (Q3s S T D vc (tp T i).at_ [] [] (i+2,0,0,9,[])):=by
 have hT:=ht.len
 rw[F224,Q1q h0 (by omega),Option.bind_some,decide_eq_true rfl,Q0c,wr2 h0 (by omega)]
 exact K2l ht h hb c (tp T i).at_ 9 [] (by decide) (by decide) (by simp only[nCs];omega) (by omega) (by omega) (by omega) (by omega)
theorem J7v(ht:OkT T)(h:HC S T D b ic wc vc)(hic:0≤ic)(hb:(T.length:Int)≤b)(hbb:b≤2000000000000000000)(c:Bool)(k:Int)(hk:k≠14)(h0:0≤i)(h1:ic≤i+1)(h2:i<T.length):
 Ag (Kc i) T.length (i+1) (b+6) (F226 wc k c S T D i) ((F177 vc [40] [41] S T D (i+1) 0 0).bind fun(kind42,at43,name44,kids45,x46,x47,x48)=>
  (appO 104 ([]:List Cmd) [Cmd.mk kind42 at43 name44 [] [] kids45]).bind fun out52=>Q3s S T D vc (tp T i).at_ [] [] (x46,x47,x48,k,out52)):=by
 have hT:=ht.len
 have bad:∀n,Bad7 (b+3) n (F177 vc [40] [41] S T D (i+1) 0 0)→Bad (b+6) n ((F177 vc [40] [41] S T D (i+1) 0 0).bind fun(kind42,at43,name44,kids45,x46,x47,x48)=>
  (appO 104 ([]:List Cmd) [Cmd.mk kind42 at43 name44 [] [] kids45]).bind fun out52=>Q3s S T D vc (tp T i).at_ [] [] (x46,x47,x48,k,out52)):=by
  intro n ⟨k',a,nm,l,j,e,g1,g2⟩
  rw[e,Option.bind_some]
  dsimp only
  rw[Q0l (by simp only[List.length_cons,List.length_nil];omega),Option.bind_some]
  exact V4p ht h hb (by omega) _ _ _ (by simp) g1 (by omega)
 rw[F226,Q1q h0 (by omega),Option.bind_some,wr1 h0 (by omega)]
 rcases X6m (i:=i+1) (s:=[40]) (e:=[41]) ht h hic hb (by omega) (.inr rfl) (by omega) (by omega) (by omega)with⟨e1,e2⟩|⟨e1,n,e2,e3⟩|⟨e1,l,j,e2,g1,g2,g5,⟨e3,e4⟩|⟨e3,g3,e4⟩⟩
 ·rw[Q6y (by omega) (by omega) e1]
  exact Ag.bad (bad _ e2) rfl
 ·rw[Q4o (by omega) (by omega) e1]
  refine Ag.bad (bad n e3) ?_
  show Q0g (F47 wc false S T D (i+1+1)) _=_
  rw[e2]
  rfl
 ·rw[Q4o (by omega) (by omega) e1]
  refine Ag.bad (bad _ e4) ?_
  show Q0g (F47 wc false S T D (i+1+1)) _=_
  rw[e2]
  show Q0g (F255 [41] S T D j) _=_
  rw[Q6y (by omega) (by omega) e3]
  rfl
 rw[Q4o (by omega) (by omega) e1,e4,Option.bind_some]
 dsimp only
 rw[Q0l (by simp only[List.length_cons,List.length_nil];omega),Option.bind_some]
 show Ag _ _ _ _ (Q0g (F47 wc false S T D (i+1+1)) _) _
 rw[e2]
 show Ag _ _ _ _ (Q0g (F255 [41] S T D j) _) _
 rw[Q4o (by omega) (by omega) e3]
 exact K2l ht h hb c (tp T i).at_ k [Cmd.mk 12 (tp T (i+1)).at_ [] [] [] l] (by simp) hk (by simp only[nCs,Q3d (Cmd.mk _ _ _ _ _ _),nWs,nRs];omega) (by omega) (by omega) (by omega) (by omega)
theorem K6v(ht:OkT T)(h:HC S T D b ic wc vc)(hw:HW S T D b iw ww vw)(hic:0≤ic)(hiw:0≤iw)(hb:(T.length:Int)≤b)(hbb:b≤2000000000000000000)(c:Bool)(h0:0≤i)(h1:ic≤i+1)(h1w:iw≤i+1)(h2:i<T.length):
 Ag (Kc i) T.length (i+1) (b+6) (F227 wc ww c S T D i) ((F174 [40] S T D (i+1) 0 0).bind fun(x60,x61,x62)=>
  (F173 S T D x60 x61 x62).bind fun(r66,x67,x68,x69)=>
  (F140 [105,110] S T D x67 x68 x69).bind fun r73=>
  (bif r73 then
    (F205 vw S T D (IntKind.wrap .i64 (x67+1)) x68 x69).bind fun(r78,x79,x80,x81)=>
    (F97 S T D x79 x80 x81).bind fun x85=>
    (vc S T D x85 x80 x81).bind fun(r89,r90,r91,r92)=>
    (appO 104 ([]:List Cmd) [r89]).bind fun out96=>
    some (Cmd.mk 10 (tp T i).at_ r66 r78 [] out96,r90,r91,r92)
  else
   (F174 [41] S T D x67 x68 x69).bind fun(x99,x100,x101)=>
   (F97 S T D x99 x100 x101).bind fun x105=>
   (vc S T D x105 x100 x101).bind fun(r109,r110,r111,r112)=>
   (appO 104 ([]:List Cmd) [r109]).bind fun out116=>
   some (Cmd.mk 10 (tp T i).at_ r66 [Word.mk 2 [42] [] [] []] [] out116,r110,r111,r112))):=by
 have hT:=ht.len
 have tail_on:∀ (r:Str) (ws:List Word) (j n:Int),0≤j→j≤b+5→Bad (b+6) n ((F97 S T D j 47 n).bind fun x85=>(vc S T D x85 47 n).bind fun(r89,r90,r91,r92)=>(appO 104 ([]:List Cmd) [r89]).bind fun out96=>some (Cmd.mk 10 (tp T i).at_ r ws [] out96,r90,r91,r92)):=by
  intro r ws j n g1 g2
  obtain⟨j',e1,e2,e3,e4,e5⟩:=Q6f (S:=S) ht (i:=j) (by omega) (by omega)
  obtain⟨a,ea⟩:=h.on j' n (by omega)
  rw[e2,Option.bind_some,ea,Option.bind_some]
  dsimp only
  rw[Q0l (by simp only[List.length_cons,List.length_nil];omega),Option.bind_some]
  exact Bad.mk (by omega) (by omega)
 have tail_ag:∀ (r:Str) (ws:List Word) (j:Int),(nWs ws:Int)+1≤8 * (j-i)→i<j→j≤T.length→Ag (Kc i) T.length (i+1) (b+6) ((F168 S T D j).bind fun x52=>Q0g (wc c S T D x52) fun(r56,r57)=>some (.inr (Cmd.mk 10 (tp T i).at_ r ws [] [r56],r57)))
  ((F97 S T D j 0 0).bind fun x85=>(vc S T D x85 0 0).bind fun(r89,r90,r91,r92)=>(appO 104 ([]:List Cmd) [r89]).bind fun out96=>some (Cmd.mk 10 (tp T i).at_ r ws [] out96,r90,r91,r92)):=by
  intro r ws j hN g1 g2
  obtain⟨j',e1,e2,e3,e4,e5⟩:=Q6f (S:=S) ht (i:=j) (by omega) (by omega)
  rw[e1,Option.bind_some,e2,Option.bind_some]
  refine Ag.bind (h.ag c j' (by omega) (by omega)) (fun a j2 g0 g1 g2=>?_) (fun n a j2 g1 g2=>?_)
  ·dsimp only
   rw[Q0l (by simp only[List.length_cons,List.length_nil];omega),Option.bind_some]
   exact Ag.ok ⟨show(10:Int)≠14 by decide,by have:=g0.2;rw[Q3d];simp only[List.nil_append,nRs,nCs];omega⟩ (by omega) g2
  dsimp only
  rw[Q0l (by simp only[List.length_cons,List.length_nil];omega),Option.bind_some]
  exact Bad.mk g1 (by omega)
 have rest_on:∀ (r:Str) (j n:Int),0≤j→j≤b+3→Bad (b+6) n ((F140 [105,110] S T D j 47 n).bind fun r73=>
  (bif r73 then
    (F205 vw S T D (IntKind.wrap .i64 (j+1)) 47 n).bind fun(r78,x79,x80,x81)=>
    (F97 S T D x79 x80 x81).bind fun x85=>
    (vc S T D x85 x80 x81).bind fun(r89,r90,r91,r92)=>
    (appO 104 ([]:List Cmd) [r89]).bind fun out96=>
    some (Cmd.mk 10 (tp T i).at_ r r78 [] out96,r90,r91,r92)
  else
   (F174 [41] S T D j 47 n).bind fun(x99,x100,x101)=>
   (F97 S T D x99 x100 x101).bind fun x105=>
   (vc S T D x105 x100 x101).bind fun(r109,r110,r111,r112)=>
   (appO 104 ([]:List Cmd) [r109]).bind fun out116=>
   some (Cmd.mk 10 (tp T i).at_ r [Word.mk 2 [42] [] [] []] [] out116,r110,r111,r112))):=by
  intro r j n g1 g2
  rw[Q9q _ _ _ ht g1,Option.bind_some]
  cases keyT (tp T j) [105,110]with
  | true=>
    rw[Q0c,wr1 g1 (by omega),F205,Z5i vw BIG (by unfold BIG;omega),Option.bind_some]
    exact tail_on r [] (j+1) n (by omega) (by omega)
  | false=>
    rw[Q0b,Q9o _ g1 (by omega),Option.bind_some]
    exact tail_on r _ (j+1) n (by omega) (by omega)
 rw[F227,Q1q h0 (by omega),Option.bind_some,wr1 h0 (by omega)]
 cases hp:isT (tp T (i+1)) [40]with
 | false=>
   rw[Q6y (by omega) (by omega) hp,J1h (by omega) (by omega) hp,Option.bind_some]
   dsimp only
   refine Ag.bad ?_ rfl
   rw[X2s ht (by omega) (by omega),Option.bind_some]
   exact rest_on (tp T (i+1+1)).text_ (i+1+1+1) (atf S T (i+1)) (by omega) (by omega)
 | true=>
   have hlt:=Q2v hp (by omega)
   rw[Q4o (by omega) (by omega) hp,Z5k (by omega) (by omega) hp,Option.bind_some]
   dsimp only
   show Ag _ _ _ _ (Q0g (F256 S T D (i+1+1)) _) _
   cases hn:(plT (tp T (i+1+1))&&Q5n (tp T (i+1+1)).text_)with
   | false=>
     rw[J5k ht (by omega) (by omega) hn,J5n ht (by omega) (by omega) hn,Option.bind_some]
     dsimp only
     refine Ag.bad ?_ rfl
     exact rest_on (tp T (i+1+1)).text_ (i+1+1+1) (atf S T (i+1+1)) (by omega) (by omega)
   | true=>
     have hlt2:=J3z (T:=T) (i:=i+1+1) (by rw[Bool.and_eq_true]at hn;exact hn.1) (by omega)
     rw[J5j ht (by omega) (by omega) hn,J1i ht (by omega) (by omega) hn,Option.bind_some]
     dsimp only
     show Ag _ _ _ _ ((F84 0 S T D (i+1+1+1)).bind _) _
     rw[Q1q (by omega) (by omega),Option.bind_some,Z4z (ht.tl _).1,Option.bind_some,Q3q (by kernel_rfl),Q9q _ _ _ ht (by omega),Option.bind_some]
     cases hin:keyT (tp T (i+1+1+1)) [105,110]with
     | true=>
       have hlt3:=J1p (T:=T) (i:=i+1+1+1) (by rw[Z6j hin];decide) (by omega)
       rw[Q0c,Q0c,wr1 (by omega) (by omega)]
       rcases Z7o ht hw hiw hb (i:=i+1+1+1+1) (by omega) (by omega)with⟨n,e1,aa,j,e2,g1,g2⟩|⟨l,j,e1,g1,g2,g3,⟨e2,e3⟩|⟨e2,aa,j3,e3,g4,g5⟩⟩
       ·rw[e1,e2,Option.bind_some]
        dsimp only
        exact Ag.bad (tail_on _ _ j n g1 (by omega)) rfl
       ·rw[e1,e3,Option.bind_some]
        have hlt4:=Q2v e2 (by omega)
        show Ag _ _ _ _ (Q0g (F255 [41] S T D j) _) _
        rw[Q4o (by omega) (by omega) e2]
        exact tail_ag _ l (j+1) (by have:=g3.2;omega) (by omega) (by omega)
       rw[e1,e3,Option.bind_some]
       dsimp only
       refine Ag.bad (tail_on _ _ j3 _ g4 (by omega)) ?_
       show Q0g (F255 [41] S T D j) _=_
       rw[Q6y (by omega) (by omega) e2]
       rfl
     | false=>
       rw[Q0b,Q0b]
       cases hp2:isT (tp T (i+1+1+1)) [41]with
       | false=>
         rw[Q6y (by omega) (by omega) hp2,J1h (by omega) (by omega) hp2,Option.bind_some]
         dsimp only
         exact Ag.bad (tail_on _ _ (i+1+1+1+1) _ (by omega) (by omega)) rfl
       | true=>
         have hlt4:=Q2v hp2 (by omega)
         rw[Q4o (by omega) (by omega) hp2,Z5k (by omega) (by omega) hp2,Option.bind_some]
         exact tail_ag _ _ (i+1+1+1+1) (by simp only[nWs,Q5x (Word.mk _ _ _ _ _),nCs];omega) (by omega) (by omega)
theorem V7f(ht:OkT T)(h:HC S T D b ic wc vc)(hic:0≤ic)(hb:(T.length:Int)≤b)(hbb:b≤2000000000000000000)(h0:0≤i)(h1:ic≤i+1)(h2:i<T.length):
 Ag (Kc i) T.length (i+1) (b+6) (F229 wc S T D i) ((F173 S T D (i+1) 0 0).bind fun(r198,x199,x200,x201)=>
  (F58 [123] S T D x199 x200 x201).bind fun r205=>
  (bif r205 then
    (F177 vc [123] [125] S T D x199 x200 x201).bind fun(kind210,at211,name212,kids213,x214,x215,x216)=>
    (bif decide ((kids213.length:Int)=0)then
      some (Cmd.mk 15 (tp T i).at_ r198 [] [] [Cmd.mk 12 0 [] [] [] []],x214,x215,x216)
    else
     some (Cmd.mk 15 (tp T i).at_ r198 [] [] kids213,x214,x215,x216))
  else
   some (Cmd.mk 15 (tp T i).at_ r198 [] [] ([]:List Cmd),x199,x200,x201))):=by
 have hT:=ht.len
 rw[F229,Q1q h0 (by omega),Option.bind_some,wr1 h0 (by omega)]
 cases hn:(plT (tp T (i+1))&&Q5n (tp T (i+1)).text_)with
 | false=>
   rw[J5k ht (by omega) (by omega) hn,J5n ht (by omega) (by omega) hn,Option.bind_some]
   dsimp only
   refine Ag.bad ?_ rfl
   rw[Q1j _ _ _ (by omega),Option.bind_some]
   cases isT (tp T (i+1+1)) [123]with
   | false=>exact Bad.mk (j:=i+1+1) (by omega) (by omega)
   | true=>
     rw[Q0c]
     obtain⟨a,e⟩:=X2q (S:=S) (T:=T) (D:=D) (n:=atf S T (i+1)) vc [123] [125] (i:=i+1+1) (by omega) (by omega)
     rw[e,Option.bind_some]
     exact Bad.mk (j:=i+1+1+2) (by omega) (by omega)
 | true=>
   have hlt2:=J3z (T:=T) (i:=i+1) (by rw[Bool.and_eq_true]at hn;exact hn.1) (by omega)
   rw[J5j ht (by omega) (by omega) hn,J1i ht (by omega) (by omega) hn,Option.bind_some]
   dsimp only
   show Ag _ _ _ _ ((F127 [123] S T D (i+1+1)).bind _) _
   rw[Z9f _ (by omega) (by omega),Option.bind_some,Q1j _ _ _ (by omega),Option.bind_some]
   cases hb1:isT (tp T (i+1+1)) [123]with
   | false=>exact Ag.ok ⟨show(15:Int)≠14 by decide,by rw[Q3d];simp only[nWs,nRs,nCs];omega⟩ (by omega) (by omega)
   | true=>
     simp only[Bool.not_true,Q0b,Q0c]
     rcases Z4q ht h hic hb (by omega) (i:=i+1+1) (by omega) (by omega) (by omega)with⟨n,e1,k,a,nm,l,j,e2,g1,g2⟩|⟨l,j,e1,g1,g3,g2,-,e2⟩
     ·rw[e1,e2,Option.bind_some]
      dsimp only
      refine Ag.bad ?_ rfl
      cases decide ((l.length:Int)=0)<;>exact Bad.mk g1 (by omega)
     rw[e1,e2,Option.bind_some]
     show Ag _ _ _ _ (bif decide ((l.length:Int)=0)then _ else _) _
     dsimp only
     cases decide ((l.length:Int)=0)<;>exact Ag.ok ⟨show(15:Int)≠14 by decide,by rw[Q3d];simp only[nWs,nRs,nCs,Q3d (Cmd.mk 12 _ _ _ _ _)];omega⟩ (by omega) (by omega)
end
end Go.Abs.U48
namespace Go.Abs.U48
open Go Go.Proofs
section
variable {S:Str}{T:List Token}{D:List Str}{b ic iw:Int}{wc:PCm}{vc:RCm}{ww:PWd}{vw:RWd}{i j n:Int}
theorem Q2z{α β:Type}(a:α)(f:α→Option (Int ⊕ β)):Q0g (some (.inr a)) f=f a:=rfl
theorem Q3r{α β:Type}(n:Int)(f:α→Option (Int ⊕ β)):Q0g (some (.inl n)) f=some (.inl n):=rfl
theorem Z8b{s:Str}(h:bW (tp T j)=false):keyT (tp T j) s=false:=by
 cases hk:keyT (tp T j) s with
 | false=>rfl
 | true=>
   rw[bW,Z6j hk]at h
   cases h
theorem K0x(ht:OkT T)(wc:PCm)(c:Bool){j3:Int}(h0:0≤j)(hj:j≤T.length)(h3:0≤j3)(hj3:j3≤T.length){g:Bool}(e:∀D',F80 S T D' j=some (g,j3))(hg:gapT (tp T j3)=false):F47 wc c S T D j3=F47 wc c S T D j:=by
 have hT:=ht.len
 obtain⟨j4,q1,-,-,-,-,-,q7⟩:=Q7n (S:=S) ht (i:=j3) h3 (by omega)
 have:=q7 hg
 subst this
 rw[F47,F47,e,q1]
 rfl
theorem J8a(vw:RWd)(vc:RCm)(at_:Int)(r:Word)(m:Nat)(hm:0<m)(l:List Cmd)(h0:0≤j)(h:j≤4000000000000000000):
 iter (Q1r S T D vw vc at_ [] r []) m (j,47,n,l)=some (Cmd.mk 17 at_ [] [r] [] l,j+1,47,n):=by
 cases m with
 | zero=>omega
 | succ m=>
   show Q1r S T D vw vc at_ [] r [] (iter (Q1r S T D vw vc at_ [] r []) m) (j,47,n,l)=_
   rw[Q1r]
   dsimp only
   rw[e47,Q0b,Q9o _ h0 h,Option.bind_some]
theorem J1t(ht:OkT T)(h:HC S T D b ic wc vc)(hw:HW S T D b iw ww vw)(hic:0≤ic)(hiw:0≤iw)(hb:(T.length:Int)≤b)(hbb:b≤2000000000000000000)(r7:Token)(r:Word)(i0:Int):
 ∀ (k m m':Nat) (j:Int) (l:List Cmd),ic≤j→iw≤j→i0<j→j≤T.length→(T.length:Int)≤j+k→k+1<m→k+1<m'→(l.length:Int)≤j→(nW r:Int)+nCs l+5≤8 * (j-i0)→
 Ag (Kc i0) T.length (i0+1) (b+6) (iter (Q6u S T D wc ww r7 r) m (j,l)) (iter (Q1r S T D vw vc r7.at_ [] r []) m' (j,0,0,l))
 | k,0,_,_,_,_,_,_,_,_,hm,_,_,_=>absurd hm (Nat.not_lt_zero _)
 | k,_,0,_,_,_,_,_,_,_,_,hm,_,_=>absurd hm (Nat.not_lt_zero _)
 | k,m+1,m'+1,j,l,h1,h1w,hi,h2,h3,h4,h5,hll,hN=>by
   have hT:=ht.len
   have h0:0≤j:=by omega
   have key:∀ (m:Nat) (j:Int) (l:List Cmd),0≤j→j≤T.length→iter (Q6u S T D wc ww r7 r) (m+1) (j,l)=(bif keyT (tp T j) Q8n then
    Q0g (F258 wc ww S T D j) fun(r45,x46)=>(appO 104 l [r45]).bind fun out53=>iter (Q6u S T D wc ww r7 r) m (x46,out53)
    else Q0g (F255 [125] S T D j) fun(r56,x57)=>some (.inr (Cmd.mk 17 r7.at_ [] [r] [] l,x57))):=by
    intro m j l g0 g1
    show Q6u S T D wc ww r7 r (iter (Q6u S T D wc ww r7 r) m) (j,l)=_
    rw[Q6u]
    dsimp only
    rw[Q1q g0 (by omega),Option.bind_some,Z4z (ht.tl _).1,Option.bind_some,Q3q (by kernel_rfl)]
   have miss:∀ (m:Nat) (j:Int) (l:List Cmd),0<m→0≤j→j≤T.length→keyT (tp T j) Q8n=false→isT (tp T j) [125]=false→iter (Q6u S T D wc ww r7 r) m (j,l)=some (.inl (atf S T j)):=by
    intro m j l hm g0 g1 g2 g3
    cases m with
    | zero=>omega
    | succ m=>
      rw[key m j l g0 g1,g2,Q0b,Q6y g0 (by omega) g3]
      rfl
   rw[key m j l h0 h2]
   show Ag _ _ _ _ _ (Q1r S T D vw vc r7.at_ [] r [] (iter (Q1r S T D vw vc r7.at_ [] r []) m') (j,0,0,l))
   rw[Q1r]
   dsimp only
   rw[e00,Q0c,Q9q _ _ _ ht h0,Option.bind_some]
   cases hk:keyT (tp T j) [99,97,115,101]with
   | false=>
     rw[Q0b,Q0b]
     cases hp:isT (tp T j) [125]with
     | true=>
       have hlt:=Q2v hp h0
       rw[Q4o h0 (by omega) hp,Z5k h0 (by omega) hp]
       exact Ag.ok ⟨show(17:Int)≠14 by decide,by rw[Q3d];simp only[nWs,nRs];omega⟩ (by omega) (by omega)
     | false=>
       rw[Q6y h0 (by omega) hp,J1h h0 (by omega) hp]
       exact Ag.no (by omega) (by omega)
   | true=>
     have hlt:=J1p (T:=T) (i:=j) (by rw[Z6j hk];decide) h0
     rw[Q0c,Q0c,Z5b 0 0 h0 hlt,Option.bind_some,wr1 h0 (by omega)]
     have j4_on:∀ (j' n:Int) (ws:List Word),0≤j'→j'≤b+1→Bad (b+6) n (Q2f vc S T D j' l (tp T j) ws (iter (Q1r S T D vw vc r7.at_ [] r []) m') (47,n)):=by
      intro j' n ws g0 g1
      rw[Q2f]
      dsimp only
      rw[F24,Z7c _ vc BIG (by unfold BIG;omega),Option.bind_some]
      dsimp only
      rw[Q0l (by simp only[List.length_cons,List.length_nil];omega),Option.bind_some,J8a vw vc _ r m' (by omega) _ g0 (by omega)]
      exact Bad.mk (by omega) (by omega)
     cases k with
     | zero=>omega
     | succ k=>
     rcases J8h ht hw hiw hb wc (i:=j) h0 (by omega) hlt with⟨n,-,e2,a,j',e3,g1,g2⟩|⟨ws,j2,e1,g1,g2,⟨hnw,hNw⟩,-,e3⟩
     ·rw[e2,e3,Option.bind_some]
      dsimp only
      rw[e47,Q0b]
      exact Ag.bad (j4_on j' n a g1 (by omega)) rfl
     rw[e1,e3,Option.bind_some]
     dsimp only
     rw[e00,Q0c]
     obtain⟨t,et,k1,-⟩:=Q2e (S:=S) (T:=T) (D:=D) 0 0 (show 0≤j2 by omega)
     rw[et,Option.bind_some,Q1j _ _ _ (by omega),Option.bind_some,Z6z _ _ _ ht (by omega) (by omega),Option.bind_some,Z0s _ (by omega),Option.bind_some,k1]
     dsimp only
     obtain⟨j3,q1,q2,q3,q4,q5,q6,q7⟩:=Q7n (S:=S) ht (i:=j2) (by omega) (by omega)
     rw[q1,Option.bind_some]
     dsimp only
     have hnk:keyT (tp T j2) Q8n=false:=Z8b hnw
     have hcs:csT T j2=false:=by rw[csT,show keyT (tp T j2) [99,97,115,101]=false from hnk];rfl
     have hr:(bif !decide ((tp T j2).kind_=3)then
      (bif !isT (tp T j2) [59]then
        (bif !stpT [99,97,115,101] T j2 then
          Q2f vc S T D j2 l (tp T j) ws (iter (Q1r S T D vw vc r7.at_ [] r []) m') (47,atf S T j2)
        else
         Q2f vc S T D j2 l (tp T j) ws (iter (Q1r S T D vw vc r7.at_ [] r []) m') (0,0))
      else
       Q2f vc S T D j2 l (tp T j) ws (iter (Q1r S T D vw vc r7.at_ [] r []) m') (0,0))
      else
       Q2f vc S T D j2 l (tp T j) ws (iter (Q1r S T D vw vc r7.at_ [] r []) m') (0,0))=
       (bif gapT (tp T j2)||isT (tp T j2) [125]then Q2f vc S T D j2 l (tp T j) ws (iter (Q1r S T D vw vc r7.at_ [] r []) m') (0,0)
         else Q2f vc S T D j2 l (tp T j) ws (iter (Q1r S T D vw vc r7.at_ [] r []) m') (47,atf S T j2)):=by
      have hst:stpT [99,97,115,101] T j2=isT (tp T j2) [125]:=by
       show(csT T j2||isT (tp T j2) [125])=_
       rw[hcs,Bool.false_or]
      rw[hst,gapT]
      cases decide ((tp T j2).kind_=3)<;>cases isT (tp T j2) [59]<;>cases isT (tp T j2) [125]<;>rfl
     rw[hr]
     have hL:=J2i ht h hic hb (by omega) (c:=true) (e:=Q8n) (.inl ⟨rfl,rfl⟩) (i:=j2) (by omega) g2
     cases hg:gapT (tp T j2)with
     | true=>
       have hj3:j3≤T.length:=by omega
       rw[Q0c,Bool.true_or,Q0c,K0x ht wc true (by omega) g2 (by omega) hj3 q1 q5,Q2f]
       dsimp only
       rcases hL with⟨n,e4,a,j',e5,g3,g4⟩|⟨l2,j4,e4,g3,g4,gN,g5,⟨e5,e6⟩|⟨e5,a,j',e6,g6,g7⟩⟩
       ·rw[e4,Q3r,Q3r,show F24 vc [99,97,115,101] S T D j2 0 0=_ from e5,Option.bind_some]
        dsimp only
        rw[Q0l (by simp only[List.length_cons,List.length_nil];omega),Option.bind_some,J8a vw vc _ r m' (by omega) _ g3 (by omega)]
        exact Ag.no (by omega) (by omega)
       ·rw[e4,Q2z,Q2z,show F24 vc [99,97,115,101] S T D j2 0 0=_ from e6,Option.bind_some]
        dsimp only
        rw[Q0l (by simp only[List.length_cons,List.length_nil];omega),Option.bind_some,Option.bind_some]
        exact J1t ht h hw hic hiw hb hbb r7 r i0 k m m' j4 _ (by omega) (by omega) (by omega) g4 (by omega) (by omega) (by omega) (by simp;omega) (by rw[Q7g,Q3d (Cmd.mk _ _ _ _ _ _)];simp only[nRs];omega)
       have hnk4:keyT (tp T j4) Q8n=false:=by
        cases hk4:keyT (tp T j4) Q8n with
        | false=>rfl
        | true=>
          have:=g5 rfl hk4
          rw[show stpT Q8n T j4=(csT T j4||isT (tp T j4) [125]) from rfl,this]at e5
          cases e5
       have hnp:isT (tp T j4) [125]=false:=by
        rw[show stpT Q8n T j4=(csT T j4||isT (tp T j4) [125]) from rfl,Bool.or_eq_false_iff]at e5
        exact e5.2
       rw[e4,Q2z,Q2z,show F24 vc [99,97,115,101] S T D j2 0 0=_ from e6,Option.bind_some]
       dsimp only
       rw[Q0l (by simp only[List.length_cons,List.length_nil];omega),Option.bind_some,miss m j4 _ (by omega) (by omega) g4 hnk4 hnp]
       rw[Q0l (by simp only[List.length_cons,List.length_nil];omega),Option.bind_some,J8a vw vc _ r m' (by omega) _ g6 (by omega)]
       exact Ag.no (by omega) (by omega)
     | false=>
       have:=q7 hg
       subst this
       rw[Q0b,Q2z,Bool.false_or]
       dsimp only
       rw[Q0l (by simp only[List.length_cons,List.length_nil];omega),Option.bind_some]
       cases hp:isT (tp T j3) [125]with
       | false=>
         rw[Q0b,miss m j3 _ (by omega) (by omega) g2 hnk hp]
         exact Ag.bad (j4_on j3 _ ws (by omega) (by omega)) rfl
       | true=>
         rw[Q0c,Q2f]
         dsimp only
         have hF:F24 vc [99,97,115,101] S T D j3 0 0=some ([],j3,0,0):=by
          show Q1z S T D [99,97,115,101] vc (iter (Q1z S T D [99,97,115,101] vc) 1180591620717411303423) (j3,0,0,[])=_
          rw[Q1z]
          dsimp only
          rw[e00,Q0c,q2,Option.bind_some,Z6z _ _ _ ht (by omega) (by omega),Option.bind_some]
          rw[show stpT [99,97,115,101] T j3=(csT T j3||isT (tp T j3) [125]) from rfl,hp,Bool.or_true,Q0c]
         rw[hF,Option.bind_some]
         dsimp only
         rw[Q0l (by simp only[List.length_cons,List.length_nil];omega),Option.bind_some]
         exact J1t ht h hw hic hiw hb hbb r7 r i0 k m m' j3 _ (by omega) (by omega) (by omega) g2 (by omega) (by omega) (by omega) (by simp;omega) (by rw[Q7g,Q3d (Cmd.mk _ _ _ _ _ _)];simp only[nRs,nCs];omega)
theorem V3w(ht:OkT T)(h:HC S T D b ic wc vc)(hw:HW S T D b iw ww vw)(hic:0≤ic)(hiw:0≤iw)(hb:(T.length:Int)≤b)(hbb:b≤2000000000000000000)(h0:0≤i)(h1:ic≤i+1)(h1w:iw≤i+1)(h2:i<T.length):
 Ag (Kc i) T.length (i+1) (b+6) (F228 wc ww S T D i) ((vw S T D (i+1) 0 0).bind fun(r120,r121,r122,r123)=>
  (F174 [123] S T D r121 r122 r123).bind fun(x127,x128,x129)=>
  (F55 S T D x127 x128 x129).bind fun x133=>
  iter (Q1r S T D vw vc (tp T i).at_ [] r120 []) BIG (x133,x128,x129,([]:List Cmd))):=by
 have hT:=ht.len
 rw[F228,Q1q h0 (by omega),Option.bind_some,wr1 h0 (by omega)]
 refine Ag.bind (hw.ag (i+1) (by omega) (by omega)) (fun a j g0 g1 g2=>?_) (fun n a j g1 g2=>?_)
 ·dsimp only
  cases hp:isT (tp T j) [123]with
  | true=>
    have hlt:=Q2v hp (by omega)
    rw[Q4o (by omega) (by omega) hp,Z5k (by omega) (by omega) hp,Q2z,Option.bind_some]
    obtain⟨j3,q1,q2,q3,q4,q5,q6,q7⟩:=Q7n (S:=S) ht (i:=j+1) (by omega) (by omega)
    dsimp only
    rw[q1,Option.bind_some,q2,Option.bind_some]
    exact J1t ht h hw hic hiw hb hbb (tp T i) a i T.length BIG BIG j3 [] (by omega) (by omega) (by omega) (by omega) (by omega) (by unfold BIG;omega) (by unfold BIG;omega) (by simp;omega) (by have:(nW a:Int)+5≤8 * (j-(i+1)):=g0;simp only[nCs];omega)
  | false=>
    rw[Q6y (by omega) (by omega) hp,J1h (by omega) (by omega) hp,Q3r,Option.bind_some]
    obtain⟨j3,q1,q2,q3,q4,q5,q6,q7⟩:=Q7n (S:=S) ht (i:=j+1) (by omega) (by omega)
    dsimp only
    rw[q2,Option.bind_some,J8a vw vc _ a BIG (by unfold BIG;omega) _ (by omega) (by omega)]
    exact Ag.no (by omega) (by omega)
 dsimp only
 rw[Q9o _ g1 (by omega),Option.bind_some]
 obtain⟨j3,q1,q2,q3,q4,q5,q6,q7⟩:=Q7n (S:=S) ht (i:=j+1) (by omega) (by omega)
 dsimp only
 rw[q2,Option.bind_some,J8a vw vc _ a BIG (by unfold BIG;omega) _ (by omega) (by omega)]
 exact Bad.mk (by omega) (by omega)
theorem X1h(ht:OkT T)(h:HC S T D b ic wc vc)(hw:HW S T D b iw ww vw)(hb:(T.length:Int)≤b)(hbb:b≤2000000000000000000)(c:Bool)(h0:0≤i)(h1:ic≤i+1)(h1w:iw≤i+1)(ha:asg T i=true):
 Ag (Kc i) T.length (i+1) (b+6) (F223 wc ww c S T D i) ((F173 S T D i 0 0).bind fun(r21,x22,x23,x24)=>
  (F174 [61] S T D x22 x23 x24).bind fun(x28,x29,x30)=>
  (vw S T D x28 x29 x30).bind fun(r34,r35,r36,r37)=>
  (bif decide (r36=0)then
    (F176 S T D r35 r36 r37).bind fun r41=>
    (bif r41 then
      (vc S T D r35 r36 r37).bind fun(r46,r47,r48,r49)=>
      some (Cmd.mk 2 (tp T i).at_ r21 [r34] ([]:List Redir) [r46],r47,r48,r49)
    else
     some (Cmd.mk 2 (tp T i).at_ r21 [r34] ([]:List Redir) [],r35,r36,r37))
  else
   some (Cmd.mk 2 (tp T i).at_ r21 [r34] ([]:List Redir) [],r35,r36,r37))):=by
 have hT:=ht.len
 rw[asg,Bool.and_eq_true]at ha
 have hlt:=Q2v ha.2 (by omega)
 rw[F223,Q1q h0 (by omega),Option.bind_some,wr2 h0 (by omega),J1i ht h0 (by omega) ha.1,Option.bind_some]
 dsimp only
 rw[Z5k (by omega) (by omega) ha.2,Option.bind_some]
 dsimp only
 rw[show i+1+1=i+2 by omega]
 refine Ag.bind (hw.ag (i+2) (by omega) (by omega)) (fun a j g0 g1 g2=>?_) (fun n a j g1 g2=>?_)
 ·dsimp only
  rw[K0v ht (by omega) (by omega),Option.bind_some,e00,Q0c,K1b _ _ ht (by omega),Option.bind_some]
  cases bC (tp T j)with
  | false=>exact Ag.ok ⟨show(2:Int)≠14 by decide,by have:(nW a:Int)+5≤8 * (j-(i+2)):=g0;rw[Q3d];simp only[nWs,nRs,nCs];omega⟩ (by omega) g2
  | true=>
    rw[Q0c,Q0c]
    refine Ag.bind (h.ag c j (by omega) g2) (fun a2 j2 g0' g1 g2=>?_) (fun n a2 j2 g1 g2=>?_)
    ·exact Ag.ok (j:=j2) ⟨show(2:Int)≠14 by decide,by have:(nW a:Int)+5≤8 * (j-(i+2)):=g0;have:=g0'.2;rw[Q3d];simp only[nWs,nRs,nCs];omega⟩ (by omega) g2
    exact Bad.mk (j:=j2) g1 (by omega)
 dsimp only
 rw[e47,Q0b]
 exact Bad.mk g1 (by omega)
theorem X5y(ht:OkT T)(h:HC S T D b ic wc vc)(hb:(T.length:Int)≤b)(c:Bool)(k:Int)(hk:k≠14)(hk9:k≠9)(h0:0≤i)(h1:ic≤i+1)(h2:i<T.length):
 Ag (Kc i) T.length (i+1) (b+6) (F224 wc k 1 c S T D i) ((vc S T D (i+1) 0 0).bind fun(r59,r60,r61,r62)=>some (Cmd.mk k (tp T i).at_ [] [] ([]:List Redir) [r59],r60,r61,r62)):=by
 have hT:=ht.len
 rw[F224,Q1q h0 (by omega),Option.bind_some,decide_eq_false hk9,Q0b,wr1 h0 (by omega),Z5h]
 refine Ag.bind (h.ag c (i+1) (by omega) (by omega)) (fun a2 j2 g0 g1 g2=>?_) (fun n a2 j2 g1 g2=>?_)
 ·exact Ag.ok (j:=j2) ⟨show k≠14 from hk,by have:=g0.2;rw[Q3d];simp only[nWs,nRs,nCs];omega⟩ (by omega) g2
 exact Bad.mk (j:=j2) g1 (by omega)
end
end Go.Abs.U48
namespace Go.Abs.U48
open Go Go.Proofs
def lev(k:Int):Int:=
 bif (decide (k=1)||(decide (k=2)||(decide (k=7)||(decide (k=8)||(decide (k=9)||(decide (k=10)||(decide (k=11)||(decide (k=12)||(decide (k=13)||(decide (k=15)||(decide (k=16)||decide (k=17))))))))))))then 1
 else bif decide (k=3)then 2 else bif (decide (k=5)||decide (k=6))then 3 else bif decide (k=14)then 4 else 0
def lvl(most k:Int):Bool:=!(decide (lev k<1)||decide (most<lev k))
def K1s(k:Int)(nm:Str)(w r c:Nat):Bool:=
 bif (((((decide (k=2)||decide (k=10))||decide (k=15))&&!Q5n nm)||(!((decide (k=2)||decide (k=10))||decide (k=15))&&!decide (nm=[])))||((decide (0<r)&&!decide (k=1))&&!decide (k=12)))then false
 else bif decide (k=1)then(decide (0<w+r)&&decide (c=0))
 else bif decide (k=2)then(decide (w=1)&&decide (c≤1))
 else bif (decide (k=7)||(decide (k=13)||(decide (k=9)||decide (k=14))))then(decide (w=0)&&decide (c=1))
 else bif (decide (k=8)||(decide (k=11)||(decide (k=5)||decide (k=6))))then(decide (w=0)&&decide (c=2))
 else bif decide (k=10)then decide (c=1)
 else bif (decide (k=12)||decide (k=15))then decide (w=0)
 else bif decide (k=3)then(decide (w=0)&&decide (2≤c))
 else bif decide (k=16)then(decide (0<w)&&decide (c=0))
 else(decide (k=17)&&decide (w=1))
def V3y(w:Word):Bool:=(((decide (w.kind_=0)&&decide (w.text_=[]))&&decide (w.quoted_=[]))&&decide (w.words_.length+w.cmd_.length=0))
def V4l(t:Str):Bool:=decide (t.getLast?=some 10)
def V4r(fd:Int)(w:Word):Bool:=
 ((((decide (fd=0)&&decide (w.kind_=1))&&decide (w.quoted_=List.replicate w.text_.length 48))&&decide (w.words_.length+w.cmd_.length=0))&&(decide (w.text_=[])||V4l w.text_))
def J8g(w:Word):Bool:=(decide (w.kind_=1)&&keyB w.text_)&&!Q2k w.quoted_
def K2m:List Word→Bool
 | []=>false
 | w::_=>bif decide (w.kind_=4)then(match w.words_ with|[]=>false|u::_=>J8g u)else J8g w
mutual
def rW:Word→Bool
 | ⟨k,t,q,ws,cs⟩=>
   bif decide (k=1)then V3u t q&&decide (ws.length+cs.length=0)
   else bif (decide (k=2)||decide (k=3))then(Q5n t&&decide (q=[]))&&decide (ws.length+cs.length=0)
   else bif decide (k=7)then(((Q5n t&&decide (q=[]))&&decide (0<ws.length))&&decide (cs.length=0))&&rWs ws
   else bif decide (k=5)then((decide (t=[])&&decide (q=[]))&&decide (cs.length=0))&&rWs ws
   else bif decide (k=6)then((decide (t=[])&&decide (q=[]))&&decide (ws.length=0))&&rUp cs 4
   else bif decide (k=4)then(ws.all fun x=>!decide (x.kind_=4))&&((((decide (t=[])&&decide (q=[]))&&decide (1<ws.length))&&decide (cs.length=0))&&rWs ws)
   else false
def rWs:List Word→Bool
 | []=>true
 | w::r=>rW w&&rWs r
def rC:Cmd→Bool
 | ⟨k,_,nm,ws,rs,ks⟩=>((K1s k nm ws.length rs.length ks.length&&rWs ws)&&rRs rs) &&
   (bif decide (k=1)then(decide (ws.length=0)||!K2m ws)
   else bif (decide (k=8)||decide (k=11))then rIf ks
   else bif (decide (k=12)||decide (k=15))then rUp ks 4
   else bif (decide (k=5)||decide (k=6))then rAnd ks
   else bif decide (k=14)then rUp ks 3
   else bif decide (k=17)then X5v ks
   else rUp ks 1)
def rUp:List Cmd→Int→Bool
 | [],_=>true
 | c::r,m=>(lvl m c.kind_&&rC c)&&rUp r m
def rIf:List Cmd→Bool
 | []=>false
 | c::r=>((decide (c.kind_=12)&&decide (c.redirs_.length=0))&&rC c)&&rUp r 1
def rAnd:List Cmd→Bool
 | []=>true
 | c::r=>(lvl 3 c.kind_&&rC c)&&rUp r 2
def V3x:Cmd→Bool
 | ⟨k,_,nm,ws,rs,ks⟩=>((((decide (k=18)&&decide (nm=[]))&&decide (rs.length=0))&&!decide (ws.length=0))&&rWs ws)&&rUp ks 4
def X5v:List Cmd→Bool
 | []=>true
 | c::r=>V3x c&&X5v r
def rR:Redir→Bool
 | ⟨k,fd,fr,w,raw⟩=>
   bif (((((decide (fd<0)||decide (64≤fd))||decide (fr<0))||decide (64≤fr))||(!decide (k=5)&&!decide (fr=0)))||(!decide (k=4)&&raw))then false
   else bif (decide (k=1)||(decide (k=2)||decide (k=3)))then rW w
   else bif (decide (k=5)||decide (k=6))then V3y w
   else bif decide (k=4)then V4r fd w
   else false
def rRs:List Redir→Bool
 | []=>true
 | r::s=>rR r&&rRs s
end
theorem J9q(N:Nat)(hN:N≤1000000):∀n j:Nat,j≤N→N-j<n→iter (Z1o (N:Int)) n (List.replicate j (48:UInt8),(j:Int))=some (List.replicate N 48)
 | 0,j,_,h=>by omega
 | n+1,j,hj,hn=>by
   show Z1o (N:Int) (iter (Z1o (N:Int)) n) (List.replicate j (48:UInt8),(j:Int))=_
   rw[Z1o]
   by_cases hc:j<N
   ·rw[decide_eq_true (by omega),Q0c,catO,if_pos (by simp;omega),Option.bind_some,Q0o (by omega) (by omega)]
    have e:List.replicate j (48:UInt8)++[48]=List.replicate (j+1) 48:=List.replicate_succ'.symm
    rw[e]
    exact J9q N hN n (j+1) (by omega) (by omega)
   rw[decide_eq_false (by omega),Q0b,show j=N by omega]
theorem K1a(N:Nat)(hN:N≤1000000):F186 (N:Int)=some (List.replicate N 48):=by
 rw[F186]
 exact J9q N hN BIG 0 (Nat.zero_le _) (by unfold BIG;omega)
theorem len0(t:Str):decide ((t.length:Int)=0)=decide (t=[]):=by
 cases t with
 | nil=>rfl
 | cons a t=>rw[decide_eq_false (by simp;omega),decide_eq_false (by simp)]
theorem two{α:Type}{l:List α}(h:l.length=2):∃a b,l=[a,b]:=by
 rcases l with _|⟨a,_|⟨b,_|⟨c,r⟩⟩⟩<;>simp at h
 exact⟨a,b,rfl⟩
end Go.Abs.U48
namespace Go.Abs.U48
open Go Go.Proofs
def numS(n:Nat):Str:=if n<10 then[UInt8.ofNat (48+n)]else[UInt8.ofNat (48+n / 10),UInt8.ofNat (48+n % 10)]
def brP(rest:Str):Option (Str×Str×Bool×Int):=
 (F276 rest [91]).bind fun r37=>(F275 r37 [93]).bind fun r40=>(Z5y r40 [61]).bind fun(a43,b44,ok45)=>(F277 a43).bind fun r48=>some (a43,b44,ok45,r48)
theorem br1:((List.range 64).all fun n=>brP (91::(numS n++[93]))==some (numS n,[],false,(n:Int)))=true:=by kernel_rfl
theorem br2:((List.range 64).all fun n=>brP (91::(numS n++[61,93]))==some (numS n,[],true,(n:Int)))=true:=by kernel_rfl
set_option maxRecDepth 100000 in
theorem br3:((List.range 64).all fun n=>(List.range 64).all fun m=>brP (91::(numS n++61::(numS m++[93])))==some (numS n,numS m,true,(n:Int)))=true:=by kernel_rfl
theorem V1s:((List.range 64).all fun n=>F277 (numS n)==some (n:Int))=true:=by kernel_rfl
theorem Q6g(pre:Str)(c:UInt8)(r:Str):sidx (pre++c::r) (pre.length:Int)=some (c.toNat:Int):=by
 rw[sidx,if_pos (by omega),Int.toNat_natCast,List.getElem?_append_right (Nat.le_refl _),Nat.sub_self]
 rfl
theorem digW:∀k,k<10→((UInt8.ofNat (48+k)).toNat:Int)=48+k∧IntKind.wrap .i64 (IntKind.wrap .u8 (((UInt8.ofNat (48+k)).toNat:Int)-48))=k:=by decide
theorem X2l{s:Str}(pre r:Str)(k:Nat)(hs:s=pre++UInt8.ofNat (48+k)::r)(hk:k<10)(hl:pre.length+r.length≤2000000)(n:Int)(hn:0≤n∧n≤100)(again:Int×Int→Option (Int×Int)):
 Q4q s again (pre.length,n)=again (((pre++[UInt8.ofNat (48+k)]).length:Nat),n * 10+k):=by
 subst hs
 obtain⟨h1,h2⟩:=digW k hk
 have hlt:(pre.length:Int)<((pre++UInt8.ofNat (48+k)::r).length:Int):=by simp only[List.length_append,List.length_cons];omega
 rw[Q4q]
 show((Q0e (decide ((pre.length:Int)<_)) (sidx _ (pre.length:Int))).bind _)=_
 rw[decide_eq_true hlt,Q0f,Q6g,Option.bind_some,Option.bind_some,h2,h1]
 rw[decide_eq_true (show(48:Int)≤48+k by omega),decide_eq_true (show(48:Int)+k≤57 by omega),Bool.and_true,Bool.and_true,Q0c]
 rw[Q0o (n:=n * 10) (by omega) (by omega),Q0o (n:=(pre.length:Int)+1) (by omega) (by omega),Q0o (by omega) (by omega)]
 congr 2
 simp only[List.length_append,List.length_cons,List.length_nil]
 omega
theorem X7o{s:Str}(pre r:Str)(c:UInt8)(hs:s=pre++c::r)(hc:¬ (48≤c.toNat∧c.toNat≤57))(n:Int)(again:Int×Int→Option (Int×Int)):
 Q4q s again (pre.length,n)=some (n,(pre.length:Int)):=by
 subst hs
 have hlt:(pre.length:Int)<((pre++c::r).length:Int):=by simp only[List.length_append,List.length_cons];omega
 rw[Q4q]
 show((Q0e (decide ((pre.length:Int)<_)) (sidx _ (pre.length:Int))).bind _)=_
 rw[decide_eq_true hlt,Q0f,Q6g,Option.bind_some,Bool.true_and]
 by_cases h1:48≤c.toNat
 ·rw[decide_eq_false (p:=((c.toNat:Int)≤57)) (by omega),Bool.and_false,Q0b]
 rw[decide_eq_false (p:=((48:Int)≤(c.toNat:Int))) (by omega),Bool.false_and,Q0b]
theorem Z3e{s:Str}(pre r:Str)(c:UInt8)(n:Nat)(hs:s=pre++(numS n++c::r))(hc:¬ (48≤c.toNat∧c.toNat≤57))(hn:n<100)(hl:pre.length+r.length≤1000000):
 F204 s pre.length=some ((n:Int),((pre++numS n).length:Int)):=by
 show Q4q s (iter (Q4q s) (1180591620717411303421+1+1)) ((pre.length:Int),0)=_
 by_cases h:n<10
 ·rw[numS,if_pos h]at hs ⊢
  rw[X2l pre (c::r) n (by rw[hs];rfl) h (by simp only[List.length_cons];omega) 0 (by omega)]
  show Q4q s (iter _ (1180591620717411303421+1)) (((pre++[UInt8.ofNat (48+n)]).length:Nat),0 * 10+(n:Int))=_
  rw[X7o _ r c (by rw[hs];simp) hc]
  simp
 rw[numS,if_neg h]at hs ⊢
 rw[X2l pre (UInt8.ofNat (48+n % 10)::c::r) (n / 10) (by rw[hs];rfl) (by omega) (by simp only[List.length_cons];omega) 0 (by omega)]
 show Q4q s (iter _ (1180591620717411303421+1)) (((pre++[UInt8.ofNat (48+n / 10)]).length:Nat),0 * 10+((n / 10:Nat):Int))=_
 rw[X2l _ (c::r) (n % 10) (by rw[hs];simp) (by omega) (by simp only[List.length_cons,List.length_append,List.length_nil];omega) _ (by omega)]
 show Q4q s (iter _ 1180591620717411303421) (((pre++[UInt8.ofNat (48+n / 10)]++[UInt8.ofNat (48+n % 10)]).length:Nat),_)=_
 rw[X7o _ r c (by rw[hs];simp) hc]
 congr 2
 ·omega
 simp
def RD(s:Str):Prop:=∃hd tl,(hd=[60]∨hd=[62]∨hd=[62,62])∧s=hd++tl∧(tl=[]∨(∃n,n<64∧tl=91::(numS n++[93]))∨(∃n,n<64∧tl=91::(numS n++[61,93]))∨∃n m,n<64∧m<64∧tl=91::(numS n++61::(numS m++[93])))
theorem Z8a:∀n,n<64→numS n≠[]∧(numS n).length≤2∧((numS n).head?=some 93)=False:=by decide
theorem X8e(n:Nat)(hn:n≤1000000):Q5j [48] (n:Int)=some (List.replicate n 48):=by
 have:∀n,Lib.repeatL [48] n=List.replicate n (48:UInt8):=by
  intro n
  induction n with
  | zero=>rfl
  | succ n ih=>rw[Lib.repeatL,ih];rfl
 rw[Q5j,if_pos ⟨by omega,by omega,by simp only[List.length_cons,List.length_nil,Int.toNat_natCast];omega⟩,Int.toNat_natCast,this]
section
variable {S:Str}{T:List Token}{D:List Str}{b ic iw:Int}{wc:PCm}{vc:RCm}{ww:PWd}{vw:RWd}{i j n:Int}
theorem J8y(hw:HW S T D b iw ww vw)(hb:(T.length:Int)≤b)(h0:0≤i)(h1w:iw≤i+1)(h2:i<T.length)(h3:T.length≤1000000)(k fd:Int):
 Ag (Kr i) T.length (i+1) b (Q9k ww S T D i k fd) (Z1p vw S T D i 0 0 k fd):=by
 rw[Q9k,Z1p,wr1 h0 (by omega)]
 refine Ag.bind (hw.ag (i+1) (by omega) (by omega)) (fun a j g0 g1 g2=>?_) (fun n a j g1 g2=>?_)
 ·exact Ag.ok (j:=j) (show(nR _:Int)+5≤_ by have:(nW a:Int)+5≤8 * (j-(i+1)):=g0;rw[Z2t];show(nW a:Int)+5≤_;omega) (by omega) g2
 exact Bad.mk (j:=j) g1 g2
theorem X8g(hw:HW S T D b iw ww vw)(hb:(T.length:Int)≤b)(h0:0≤i)(h1w:iw≤i+1)(h2:i<T.length)(h3:T.length≤1000000)(r:Token)(k fd:Int)(hd tl:Str)(hh:hd.length≤2)(hs:r.text_=hd++tl)
 (ht:tl=[]∨(∃n,n<64∧tl=91::(numS n++[93]))∨(∃n,n<64∧tl=91::(numS n++[61,93]))∨∃n m,n<64∧m<64∧tl=91::(numS n++61::(numS m++[93]))):
 Ag (Kr i) T.length (i+1) b (Q6t i ww S T D (tl,k,fd)) (Z1q r i 0 0 vw S T D fd (hd.length,k)):=by
 have brk:∀ (rest a b:Str) (ok:Bool) (v:Int),rest≠[]→brP rest=some (a,b,ok,v)→Q6t i ww S T D (rest,k,fd)=(bif (ok&&decide (b=[]))then some (.inr (Redir.mk 6 v 0 (Word.mk 0 [] [] [] []) false,IntKind.wrap .i64 (i+1)))
  else(bif ok then(F277 b).bind fun r53=>some (.inr (Redir.mk 5 v r53 (Word.mk 0 [] [] [] []) false,IntKind.wrap .i64 (i+1)))else Q9k ww S T D i k v)):=by
  intro rest a b ok v hne he
  rw[Q6t]
  dsimp only
  rw[decide_eq_false hne]
  simp only[Bool.not_false,Q0c]
  simp only[brP]at he
  obtain⟨r37,e1,he⟩:=obs he
  obtain⟨r40,e2,he⟩:=obs he
  obtain⟨⟨a',b',ok'⟩,e3,he⟩:=obs he
  obtain⟨v',e4,he⟩:=obs he
  cases he
  rw[e1,Option.bind_some,e2,Option.bind_some,e3,Option.bind_some]
  dsimp only
  rw[e4,Option.bind_some]
 rw[Z1q]
 dsimp only
 rcases ht with rfl|⟨n,hn,rfl⟩|⟨n,hn,rfl⟩|⟨n,m,hn,hm,rfl⟩
 ·rw[hs,List.append_nil,decide_eq_false (by omega),Q0b]
  exact J8y hw hb h0 h1w h2 h3 k fd
 ·obtain⟨g1,g2,g3⟩:=Z8a n hn
  have e:=List.all_eq_true.1 br1 n (List.mem_range.2 hn)
  rw[brk _ _ _ _ _ (by simp) (eq_of_beq e),hs,decide_eq_true (p:=(hd.length:Int)<_) (by simp only[List.length_append,List.length_cons];omega),Q0c]
  have hl:((hd.length:Int)+1)=(((hd++[91]).length:Nat):Int):=by simp only[List.length_append,List.length_cons,List.length_nil];omega
  rw[Q0o (n:=(hd.length:Int)+1) (by omega) (by omega),hl,Z3e (hd++[91]) [] 93 n (by simp) (by decide) (by omega) (by simp only[List.length_append,List.length_cons,List.length_nil];omega),Option.bind_some]
  dsimp only
  rw[show hd++91::(numS n++[93])=(hd++[91]++numS n)++93::[]by simp,Q6g,Option.bind_some]
  exact J8y hw hb h0 h1w h2 h3 k n
 ·obtain⟨g1,g2,g3⟩:=Z8a n hn
  have e:=List.all_eq_true.1 br2 n (List.mem_range.2 hn)
  rw[brk _ _ _ _ _ (by simp) (eq_of_beq e),hs,decide_eq_true (p:=(hd.length:Int)<_) (by simp only[List.length_append,List.length_cons];omega),Q0c]
  have hl:((hd.length:Int)+1)=(((hd++[91]).length:Nat):Int):=by simp only[List.length_append,List.length_cons,List.length_nil];omega
  rw[Q0o (n:=(hd.length:Int)+1) (by omega) (by omega),hl,Z3e (hd++[91]) [93] 61 n (by simp) (by decide) (by omega) (by simp only[List.length_append,List.length_cons,List.length_nil];omega),Option.bind_some]
  dsimp only
  rw[show hd++91::(numS n++[61,93])=(hd++[91]++numS n)++61::[93]by simp,Q6g,Option.bind_some]
  have hl2:((hd++[91]++numS n).length:Int)+1=(((hd++[91]++numS n++[61]).length:Nat):Int):=by simp only[List.length_append,List.length_cons,List.length_nil];omega
  have hl3:(hd++[91]++numS n).length≤10:=by simp only[List.length_append,List.length_cons,List.length_nil];omega
  have hw2:IntKind.wrap .i64 ((((hd++[91]++numS n).length:Nat):Int)+1)=(((hd++[91]++numS n).length:Nat):Int)+1:=Q0o (by omega) (by omega)
  rw[hw2,hl2,show(hd++[91]++numS n)++61::[93]=(hd++[91]++numS n++[61])++93::[]by simp,Q6g,Option.bind_some]
  have hw1:IntKind.wrap .i64 (i+1)=i+1:=wr1 h0 (by omega)
  rw[hw1]
  exact Ag.ok (show(nR _:Int)+5≤_ by rw[Z2t];simp only[Q5x (Word.mk _ _ _ _ _),nWs,nCs];omega) (by omega) (by omega)
 obtain⟨g1,g2,g3⟩:=Z8a n hn
 obtain⟨k1,k2,k3⟩:=Z8a m hm
 have e:=List.all_eq_true.1 (List.all_eq_true.1 br3 n (List.mem_range.2 hn)) m (List.mem_range.2 hm)
 have em:=eq_of_beq (List.all_eq_true.1 V1s m (List.mem_range.2 hm))
 rw[brk _ _ _ _ _ (by simp) (eq_of_beq e),hs,decide_eq_true (p:=(hd.length:Int)<_) (by simp only[List.length_append,List.length_cons];omega),Q0c]
 have hl:((hd.length:Int)+1)=(((hd++[91]).length:Nat):Int):=by simp only[List.length_append,List.length_cons,List.length_nil];omega
 rw[Q0o (n:=(hd.length:Int)+1) (by omega) (by omega),hl,Z3e (hd++[91]) (numS m++[93]) 61 n (by simp) (by decide) (by omega) (by simp only[List.length_append,List.length_cons,List.length_nil];omega),Option.bind_some]
 dsimp only
 rw[show hd++91::(numS n++61::(numS m++[93]))=(hd++[91]++numS n)++61::(numS m++[93])by simp,Q6g,Option.bind_some]
 have hl2:((hd++[91]++numS n).length:Int)+1=(((hd++[91]++numS n++[61]).length:Nat):Int):=by simp only[List.length_append,List.length_cons,List.length_nil];omega
 have hl3:(hd++[91]++numS n).length≤10:=by simp only[List.length_append,List.length_cons,List.length_nil];omega
 have hw2:IntKind.wrap .i64 ((((hd++[91]++numS n).length:Nat):Int)+1)=(((hd++[91]++numS n).length:Nat):Int)+1:=Q0o (by omega) (by omega)
 rw[hw2,hl2]
 rw[show(hd++[91]++numS n)++61::(numS m++[93])=(hd++[91]++numS n++[61])++(numS m++93::[])by simp]
 rw[Z3e (hd++[91]++numS n++[61]) [] 93 m rfl (by decide) (by omega) (by simp only[List.length_append,List.length_cons,List.length_nil];omega),Option.bind_some]
 cases hx:numS m with
 | nil=>exact absurd hx k1
 | cons x y=>
   rw[hx]at k3
   have hx93:¬ (x.toNat:Int)=93:=by
    intro e
    have:x=93:=by
     apply UInt8.toNat_inj.1
     have:x.toNat=93:=by omega
     rw[this]
     rfl
    subst this
    exact k3.mp rfl
   have hw1:IntKind.wrap .i64 (i+1)=i+1:=wr1 h0 (by omega)
   rw[hx]at em
   rw[List.cons_append,Q6g,Option.bind_some,decide_eq_false hx93,em,Option.bind_some,hw1]
   exact Ag.ok (show(nR _:Int)+5≤_ by rw[Z2t];simp only[Q5x (Word.mk _ _ _ _ _),nWs,nCs];omega) (by omega) (by omega)
end
end Go.Abs.U48
namespace Go.Abs.U48
open Go Go.Proofs
structure OkR(T:List Token)(D:List Str):Prop where
 ok:OkT T
 rd:∀t∈T,t.kind_=2→(c0 t.text_=60∨c0 t.text_=62)→RD t.text_
 dl:D.length=T.length
 dt:∀d∈D,d.length≤1000000
section
variable {S:Str}{T:List Token}{D:List Str}{b ic iw:Int}{wc:PCm}{vc:RCm}{ww:PWd}{vw:RWd}{i j n:Int}
theorem K0e(h:bR (tp T i)=true)(h0:0≤i):i<T.length:=by
 rcases Int.lt_or_le i T.length with hl|hl
 ·exact hl
 rw[Q9t hl]at h
 exact absurd h (by decide)
theorem J9n(q:Str):decide (0≤Lib.indexByte q 49)=Q2k q:=by
 have h:=X0b q 49
 rw[Q2k]
 by_cases hl:Lib.indexByte q 49<0
 ·rw[decide_eq_true hl]at h
  rw[decide_eq_false (by omega)]
  cases hq:q.contains 49 with
  | false=>rfl
  | true=>rw[hq]at h;cases h
 rw[decide_eq_false hl]at h
 rw[decide_eq_true (by omega)]
 cases hq:q.contains 49 with
 | true=>rfl
 | false=>rw[hq]at h;cases h
theorem K1t(hr:OkR T D)(hw:HW S T D b iw ww vw)(hb:(T.length:Int)≤b)(h0:0≤i)(h1w:iw≤i+1)(hR:bR (tp T i)=true):
 Ag (Kr i) T.length (i+1) b (F254 ww S T D i) (F179 vw S T D i 0 0):=by
 have hlt:=K0e hR h0
 have hT:=hr.ok.len
 have htl:=hr.ok.tl i
 rw[F254,F179,Q1q h0 (by omega),Option.bind_some,Z5b 0 0 h0 hlt,Option.bind_some]
 by_cases h4:(tp T i).kind_=4
 ·have hn:i.toNat<D.length:=by rw[hr.dl];omega
  have hd:lidx D i=some (D[i.toNat]):=by
   rw[lidx,if_pos h0,List.getElem?_eq_getElem hn]
  have hdl:=hr.dt _ (List.getElem_mem hn)
  rw[decide_eq_true h4,Q0c,Q0c,hd,Option.bind_some,Option.bind_some,X8e _ hdl,Option.bind_some,Q8y,Option.bind_some,K1a _ hdl,Option.bind_some,Z1r _ (by omega),Option.bind_some,J9n,wr1 h0 (by omega)]
  exact Ag.ok (show(nR _:Int)+5≤_ by rw[Z2t];simp only[Q5x (Word.mk _ _ _ _ _),nWs,nCs];omega) (by omega) (by omega)
 rw[bR,decide_eq_false h4,Bool.false_or,Bool.and_eq_true,decide_eq_true_eq,Bool.or_eq_true,decide_eq_true_eq,decide_eq_true_eq]at hR
 have hm:tp T i∈T:=by
  rcases X5p (T:=T) (i:=i)with hm|hm
  ·exact hm
  rw[hm]at hR
  exact absurd hR.1 (by decide)
 obtain⟨hd,tl,hh,hs,ht⟩:=hr.rd _ hm hR.1 hR.2
 rw[decide_eq_false h4,Q0b,Q0b]
 have htl0:∀c r,tl=c::r→c=91:=by
  intro c r e
  rcases ht with rfl|⟨n,hn,rfl⟩|⟨n,hn,rfl⟩|⟨n,m,hn,hm,rfl⟩
  ·cases e
  ·exact(List.cons.inj e).1.symm
  ·exact(List.cons.inj e).1.symm
  exact(List.cons.inj e).1.symm
 have sl:∀ (c:UInt8) (r:Str),Q0t (c::r) 1 ((c::r).length:Int)=some r:=by
  intro c r
  rw[Q0t,if_pos ⟨by omega,by simp only[List.length_cons];omega,Int.le_refl _⟩]
  simp only[List.length_cons,show(1:Int).toNat=1 from rfl,List.drop_succ_cons,List.drop_zero]
  rw[List.take_of_length_le (by omega)]
 have pre:∀s:Str,F42 s [62]=some (decide (s.head?=some 62)):=by
  intro s
  rw[F42,F74]
  cases s with
  | nil=>rfl
  | cons c r=>
    rw[decide_eq_true (by simp only[List.length_cons,List.length_nil];omega),Q0f,Q0t,if_pos ⟨by decide,by decide,by simp only[List.length_cons,List.length_nil];omega⟩,Option.bind_some,Option.bind_some]
    show some (true&&decide ([c]=[62]))=some (decide (some c=some 62))
    by_cases hc:c=62
    ·subst hc
     rfl
    rw[decide_eq_false (p:=([c]:Str)=[62]) (fun e=>hc (List.cons.inj e).1),decide_eq_false (p:=some c=some 62) (fun e=>hc (Option.some.inj e))]
    rfl
 have tail:=fun k fd hd' (hh:hd'.length≤2) (e:(tp T i).text_=hd'++tl)=>X8g hw hb h0 h1w hlt hT (tp T i) k fd hd' tl hh e ht
 rcases hh with rfl|rfl|rfl
 ·have:=tail 1 0 [60] (by decide) hs
  rw[hs,List.cons_append,List.nil_append,sl,Option.bind_some]
  rw[show sidx (60::tl) 0=some 60 from rfl,Option.bind_some,Option.bind_some]
  show Ag _ _ _ _ (Q6t i ww S T D (tl,1,0)) _
  rw[show decide ((60:Int)=62)=false from rfl,Q0b,Q9n]
  have h62:∀g:Bool,(g=true→tl≠[])→(Q0e g (sidx (tp T i).text_ 1))=Q0e g (some 91):=by
   intro g hg
   cases g with
   | false=>rfl
   | true=>
     rw[Q0f,Q0f,hs]
     cases tl with
     | nil=>exact absurd rfl (hg rfl)
     | cons c r=>rw[htl0 c r rfl];rfl
  rw[h62 _ (fun hg e=>by
   rw[decide_eq_true_eq,hs,e]at hg
   exact absurd hg (by decide))]
  cases hg:decide (1<((tp T i).text_.length:Int))with
  | false=>exact this
  | true=>exact this
 ·have:=tail 2 1 [62] (by decide) hs
  rw[hs,List.cons_append,List.nil_append,sl,Option.bind_some]
  rw[show sidx (62::tl) 0=some 62 from rfl,Option.bind_some,Option.bind_some]
  have hne:decide (tl.head?=some 62)=false:=by
   rw[decide_eq_false]
   intro e
   cases tl with
   | nil=>cases e
   | cons c r=>rw[htl0 c r rfl]at e;simp at e
  rw[show decide ((62:Int)=60)=false from rfl,Q0b,pre,Option.bind_some,hne,Q0b,show decide ((62:Int)=62)=true from rfl,Q0c,Q9n]
  have h62:∀g:Bool,(g=true→tl≠[])→(Q0e g (sidx (tp T i).text_ 1))=Q0e g (some 91):=by
   intro g hg
   cases g with
   | false=>rfl
   | true=>
     rw[Q0f,Q0f,hs]
     cases tl with
     | nil=>exact absurd rfl (hg rfl)
     | cons c r=>rw[htl0 c r rfl];rfl
  rw[h62 _ (fun hg e=>by
   rw[decide_eq_true_eq,hs,e]at hg
   exact absurd hg (by decide))]
  cases hg:decide (1<((tp T i).text_.length:Int))with
  | false=>exact this
  | true=>exact this
 have:=tail 3 1 [62,62] (by decide) hs
 rw[hs,List.cons_append,List.cons_append,List.nil_append,sl,Option.bind_some]
 rw[show sidx (62::62::tl) 0=some 62 from rfl,Option.bind_some,Option.bind_some]
 rw[show decide ((62:Int)=60)=false from rfl,Q0b,pre,Option.bind_some,show decide ((62::tl).head?=some 62)=true from rfl,Q0c,sl,Option.bind_some,show decide ((62:Int)=62)=true from rfl,Q0c,Q9n]
 rw[hs,List.cons_append,List.cons_append,List.nil_append]
 rw[decide_eq_true (show(1:Int)<((62::62::tl).length:Int)by simp only[List.length_cons];omega),Q0f,show sidx (62::62::tl) 1=some 62 from rfl,Option.bind_some,show decide ((62:Int)=62)=true from rfl]
 exact this
theorem Z7i(vw:RWd)(k at_:Int)(nm:Str)(ks:List Cmd)(m:Nat)(hm:0<m)(j n:Int)(l:List Redir):iter (Q4t S T D vw k at_ nm ks) m (j,47,n,l)=some (Cmd.mk k at_ nm [] l ks,j,47,n):=by
 cases m with
 | zero=>omega
 | succ m=>
   show Q4t S T D vw k at_ nm ks (iter (Q4t S T D vw k at_ nm ks) m) (j,47,n,l)=_
   rw[Q4t]
   dsimp only
   rw[e47,Q0b]
theorem Z6r(hr:OkR T D)(hw:HW S T D b iw ww vw)(hiw:0≤iw)(hb:(T.length:Int)≤b)(r7:Token)(ks:List Cmd)(i0:Int):
 ∀ (k m m':Nat) (j:Int) (l:List Redir),iw≤j→i0<j→j≤T.length→(T.length:Int)≤j+k→k<m→k+1<m'→(l.length:Int)≤j→(nCs ks:Int)+nRs l+5≤8 * (j-i0)→
 Ag (Kc i0) T.length (i0+1) (b+6) (iter (Z1n S T D ww r7 ks) m (j,l)) (iter (Q4t S T D vw 12 r7.at_ [] ks) m' (j,0,0,l))
 | k,0,_,_,_,_,_,_,_,hm,_,_,_=>absurd hm (Nat.not_lt_zero _)
 | k,_,0,_,_,_,_,_,_,_,hm,_,_=>absurd hm (Nat.not_lt_zero _)
 | k,m+1,m'+1,j,l,h1,hi,h2,h3,h4,h5,hll,hN=>by
   have hT:=hr.ok.len
   have h0:0≤j:=by omega
   show Ag _ _ _ _ (Z1n S T D ww r7 ks (iter (Z1n S T D ww r7 ks) m) (j,l)) (Q4t S T D vw 12 r7.at_ [] ks (iter (Q4t S T D vw 12 r7.at_ [] ks) m') (j,0,0,l))
   rw[Z1n,Q4t]
   dsimp only
   rw[Q1q h0 (by omega),Option.bind_some,Z9e (hr.ok.tl j).2.2,Option.bind_some,e00,Q0c,Z9b _ _ hr.ok h0,Option.bind_some]
   cases hR:bR (tp T j)with
   | false=>exact Ag.ok ⟨show(12:Int)≠14 by decide,by rw[Q3d];simp only[nWs];omega⟩ (by omega) h2
   | true=>
     have hlt:=K0e hR h0
     rw[Q0c,Q0c]
     refine Ag.bind (K1t hr hw hb h0 (by omega) hR) (fun a j2 g0 g1 g2=>?_) (fun n a j2 g1 g2=>?_)
     ·dsimp only
      rw[Q0l (by simp only[List.length_cons,List.length_nil];omega),Option.bind_some,Option.bind_some]
      cases k with
      | zero=>omega
      | succ k=>exact Z6r hr hw hiw hb r7 ks i0 k m m' j2 _ (by omega) (by omega) g2 (by omega) (by omega) (by omega) (by simp;omega) (by have:(nR a:Int)+5≤8 * (j2-j):=g0;rw[J2h];omega)
     dsimp only
     rw[Q0l (by simp only[List.length_cons,List.length_nil];omega),Option.bind_some,Z7i vw _ _ _ _ m' (by omega)]
     exact Bad.mk g1 (by omega)
theorem X4v(hr:OkR T D)(h:HC S T D b ic wc vc)(hw:HW S T D b iw ww vw)(hic:0≤ic)(hiw:0≤iw)(hb:(T.length:Int)≤b)(hbb:b≤2000000000000000000)(h0:0≤i)(h1:ic≤i+1)(h1w:iw≤i+1)(h2:i<T.length):
 Ag (Kc i) T.length (i+1) (b+6) (F225 wc ww S T D i) ((F177 vc [123] [125] S T D i 0 0).bind fun(kind76,at77,name78,kids79,x80,x81,x82)=>
  iter (Q4t S T D vw kind76 at77 name78 kids79) BIG (x80,x81,x82,([]:List Redir))):=by
 have hT:=hr.ok.len
 rw[F225,Q1q h0 (by omega),Option.bind_some]
 rcases Z4q hr.ok h hic hb (by omega) (i:=i) (by omega) h0 (by omega)with⟨n,e1,k,a,nm,l,j,e2,g1,g2⟩|⟨l,j,e1,g1,g3,g2,-,e2⟩
 ·rw[e1,e2,Option.bind_some]
  dsimp only
  rw[Z7i vw _ _ _ _ BIG (by unfold BIG;omega)]
  exact Ag.bad (Bad.mk g1 (by omega)) rfl
 rw[e1,e2,Option.bind_some]
 exact Z6r hr hw hiw hb (tp T i) l i T.length BIG BIG j [] (by omega) (by omega) g2 (by omega) (by unfold BIG;omega) (by unfold BIG;omega) (by simp;omega) (by simp only[nRs];omega)
def kyT(t:Token):Bool:=(decide (t.kind_=1)&&keyB t.text_)&&!Q2k t.quoted_
theorem V4m(t:Token):((!decide (kwT t=[])&&!decide (kwT t=[110,111,116]))&&!decide (kwT t=[105,110]))=kyT t:=by
 rw[kwT,kyT,plT]
 cases decide (t.kind_=1)with
 | false=>rfl
 | true=>
   cases Q2k t.quoted_ with
   | true=>
     cases keyB t.text_<;>rfl
   | false=>
     simp only[Bool.not_false,Bool.and_true,Bool.true_and]
     cases hk:kwsB t.text_ with
     | false=>
       rw[Q0b]
       cases hy:keyB t.text_ with
       | false=>rfl
       | true=>
         rw[keyB]at hy
         rw[kwsB]at hk
         simp only[Bool.or_eq_true,decide_eq_true_eq]at hy
         simp only[Bool.or_eq_false_iff,decide_eq_false_iff_not]at hk
         rcases hy with(((((hy|hy)|hy)|hy)|hy)|hy)|hy<;>simp[hy]at hk
     | true=>
       rw[Q0c]
       rw[kwsB]at hk
       simp only[Bool.or_eq_true,decide_eq_true_eq]at hk
       rcases hk with hk|hk|hk|hk|hk|hk|hk|hk|hk<;>rw[hk]<;>rfl
end
end Go.Abs.U48
namespace Go.Abs.U48
open Go Go.Proofs
section
variable {S:Str}{T:List Token}{D:List Str}{b ic iw:Int}{wc:PCm}{vc:RCm}{ww:PWd}{vw:RWd}{i j n:Int}
def drp(x:Cmd×Int×Int×Int×List Redir):Option (Cmd×Int×Int×Int):=some (x.1,x.2.1,x.2.2.1,x.2.2.2.1)
theorem Z9a(vw:RWd)(at_:Int)(m:Nat)(hm:0<m)(j n:Int)(rs:List Redir)(ws:List Word):
 (iter (Q1k S T D vw at_ []) m (j,47,n,rs,ws)).bind drp=some (Cmd.mk 1 at_ [] ws rs [],j,47,n):=by
 cases m with
 | zero=>omega
 | succ m=>
   show(Q1k S T D vw at_ [] (iter (Q1k S T D vw at_ []) m) (j,47,n,rs,ws)).bind drp=_
   rw[Q1k]
   dsimp only
   rw[e47,Q0b]
   rfl
theorem V9w{t:Token}(h:bR t=true):bW t=false:=by
 rw[bR,Bool.or_eq_true,decide_eq_true_eq,Bool.and_eq_true,decide_eq_true_eq]at h
 rcases h with h|⟨h,h2⟩
 ·simp only[bW,isT,h]
  rfl
 have hs:∀s:Str,(decide (c0 s=60)||decide (c0 s=62))=false→isT t s=false:=by
  intro s hs
  rw[isT]
  cases hd:decide (t.text_=s)with
  | false=>rw[Bool.and_false]
  | true=>
    rw[of_decide_eq_true hd,hs]at h2
    cases h2
 rw[bW,hs [36] (by decide),hs [36,35] (by decide),hs [40] (by decide),hs [96] (by decide),h]
 rfl
theorem K2k{t:Token}(h:kyT t=true):bW t=true∧bR t=false:=by
 rw[kyT,Bool.and_eq_true,Bool.and_eq_true,decide_eq_true_eq]at h
 have h1:=h.1.1
 refine⟨by rw[bW,h1];rfl,by rw[bR,h1];rfl⟩
theorem Q9e(hr:OkR T D)(hw:HW S T D b iw ww vw)(hiw:0≤iw)(hb:(T.length:Int)≤b)(r7:Token)(i0:Int):
 ∀ (k m m':Nat) (j:Int) (ws:List Word) (rs:List Redir),iw≤j→i0≤j→j≤T.length→(T.length:Int)≤j+k→k<m→k+1<m'→(ws.length:Int)≤j→(rs.length:Int)≤j→
 (ws=[]→rs=[]→kyT (tp T j)=false∧(bW (tp T j)||bR (tp T j))=true)→(ws≠[]∨rs≠[]→i0<j∧(nWs ws:Int)+nRs rs+5≤8 * (j-i0))→
 Ag (Kc i0) T.length (i0+1) (b+6) (iter (Q4p S T D ww r7) m (j,ws,rs)) ((iter (Q1k S T D vw r7.at_ []) m' (j,0,0,rs,ws)).bind drp)
 | k,0,_,_,_,_,_,_,_,_,hm,_,_,_,_,_=>absurd hm (Nat.not_lt_zero _)
 | k,_,0,_,_,_,_,_,_,_,_,hm,_,_,_,_=>absurd hm (Nat.not_lt_zero _)
 | k,m+1,m'+1,j,ws,rs,h1,hi,h2,h3,h4,h5,hlw,hlr,hst,hpos=>by
   have hT:=hr.ok.len
   have h0:0≤j:=by omega
   have hsum:(nWs ws:Int)+nRs rs≤8 * (j-i0):=by
    by_cases hw0:ws=[]
    ·by_cases hr0:rs=[]
     ·rw[hw0,hr0,nWs,nRs]
      omega
     have:=(hpos (.inr hr0)).2
     omega
    have:=(hpos (.inl hw0)).2
    omega
   have hwl:(decide ((ws.length:Int)=0))=decide (ws=[]):=by
    cases ws with
    | nil=>rfl
    | cons a l=>rw[decide_eq_false (by simp only[List.length_cons];omega),decide_eq_false (by simp)]
   have hrl:(decide (0<(rs.length:Int)))=!decide (rs=[]):=by
    cases rs with
    | nil=>rfl
    | cons a l=>rw[decide_eq_true (by simp only[List.length_cons];omega),decide_eq_false (by simp)];rfl
   have hrl0:(decide ((rs.length:Int)=0))=decide (rs=[]):=by
    cases rs with
    | nil=>rfl
    | cons a l=>rw[decide_eq_false (by simp only[List.length_cons];omega),decide_eq_false (by simp)]
   have sp:iter (Q4p S T D ww r7) (m+1) (j,ws,rs)=(bif (decide (ws=[])&&!decide (rs=[]))&&kyT (tp T j)then some (.inl (atf S T j))
    else bif bW (tp T j)then Q0g (ww S T D j) fun(r35,r36)=>(appO 88 ws [r35]).bind fun out43=>iter (Q4p S T D ww r7) m (r36,out43,rs)
    else bif bR (tp T j)then Q0g (F254 ww S T D j) fun(r50,x51)=>(appO 120 rs [r50]).bind fun out58=>iter (Q4p S T D ww r7) m (x51,ws,out58)
    else some (.inr (Cmd.mk 1 r7.at_ [] ws rs [],j))):=by
    show Q4p S T D ww r7 (iter (Q4p S T D ww r7) m) (j,ws,rs)=_
    rw[Q4p]
    dsimp only
    rw[Q1q h0 (by omega),Option.bind_some,Z4z (hr.ok.tl _).1,Q7x h0,Q4u,Option.bind_some,Z9e (hr.ok.tl j).2.2,Option.bind_some,hwl,hrl]
    cases hc:(decide (ws=[])&&!decide (rs=[]))with
    | false=>rfl
    | true=>
      rw[Q0f,Option.bind_some,Bool.true_and,V4m,Bool.true_and]
      rfl
   have sr:iter (Q1k S T D vw r7.at_ []) (m'+1) (j,0,0,rs,ws)=(bif bR (tp T j)then(F179 vw S T D j 0 0).bind fun(r30,x31,x32,x33)=>(appO 120 rs [r30]).bind fun out37=>iter (Q1k S T D vw r7.at_ []) m' (x31,x32,x33,out37,ws)
    else bif decide (ws=[])&&kyT (tp T j)then(F60 S T D (bif decide (rs=[])then j+1 else j) 0 0).bind fun(x54,x55)=>iter (Q1k S T D vw r7.at_ []) m' ((bif decide (rs=[])then j+1 else j),x54,x55,rs,ws)
    else bif bW (tp T j)then(vw S T D j 0 0).bind fun(r64,r65,r66,r67)=>(appO 88 ws [r64]).bind fun out71=>iter (Q1k S T D vw r7.at_ []) m' (r65,r66,r67,rs,out71)
    else bif decide (ws=[])&&decide (rs=[])then(F60 S T D j 0 0).bind fun(x75,x76)=>iter (Q1k S T D vw r7.at_ []) m' (j,x75,x76,rs,ws)
    else some (Cmd.mk 1 r7.at_ [] ws rs [],j,0,0,rs)):=by
    show Q1k S T D vw r7.at_ [] (iter (Q1k S T D vw r7.at_ []) m') (j,0,0,rs,ws)=_
    obtain⟨t,et,k1,k2,k3,-⟩:=Q2e (S:=S) (T:=T) (D:=D) 0 0 h0
    have hz:decide (IntKind.wrap .i64 ((ws.length:Int)+(rs.length:Int))=0)=(decide (ws=[])&&decide (rs=[])):=by
     rw[Q0o (by omega) (by omega)]
     cases ws<;>cases rs<;>simp<;>omega
    rw[Q1k]
    dsimp only
    rw[e00,Q0c,Z9b _ _ hr.ok h0,Option.bind_some,et,Option.bind_some,k1,k2,k3,hwl,hrl0,hz,Z5j _ _ h0,Option.bind_some,wr1 h0 (by omega)]
    have hq:=(hr.ok.tl j).2.1
    cases bR (tp T j)with
    | true=>rfl
    | false=>
      rw[Q0b,Q0b]
      cases decide (ws=[])with
      | false=>cases bW (tp T j)<;>rfl
      | true=>
        rw[Q0c,Bool.true_and,kyT]
        cases decide ((tp T j).kind_=1)with
        | false=>
          simp only[Bool.false_and,Bool.true_and,Q1p,Option.bind_some,Q0b]
          try rfl
        | true=>
          rw[Bool.true_and,Q0f,X2p,Option.bind_some,Bool.true_and]
          cases keyB (tp T j).text_ with
          | false=>
            simp only[Bool.false_and,Bool.true_and,Q1p,Option.bind_some,Q0b]
            try rfl
          | true=>
            rw[Q0f,Z1r _ (by omega),Option.bind_some]
            try rfl
   rw[sp,sr]
   have step:(bW (tp T j)||bR (tp T j))=true→((decide (ws=[])&&kyT (tp T j))=false)→
    Ag (Kc i0) T.length (i0+1) (b+6) (bif bW (tp T j)then Q0g (ww S T D j) fun(r35,r36)=>(appO 88 ws [r35]).bind fun out43=>iter (Q4p S T D ww r7) m (r36,out43,rs)
    else bif bR (tp T j)then Q0g (F254 ww S T D j) fun(r50,x51)=>(appO 120 rs [r50]).bind fun out58=>iter (Q4p S T D ww r7) m (x51,ws,out58)
    else some (.inr (Cmd.mk 1 r7.at_ [] ws rs [],j)))
    ((bif bR (tp T j)then(F179 vw S T D j 0 0).bind fun(r30,x31,x32,x33)=>(appO 120 rs [r30]).bind fun out37=>iter (Q1k S T D vw r7.at_ []) m' (x31,x32,x33,out37,ws)
    else bif decide (ws=[])&&kyT (tp T j)then(F60 S T D (bif decide (rs=[])then j+1 else j) 0 0).bind fun(x54,x55)=>iter (Q1k S T D vw r7.at_ []) m' ((bif decide (rs=[])then j+1 else j),x54,x55,rs,ws)
    else bif bW (tp T j)then(vw S T D j 0 0).bind fun(r64,r65,r66,r67)=>(appO 88 ws [r64]).bind fun out71=>iter (Q1k S T D vw r7.at_ []) m' (r65,r66,r67,rs,out71)
    else bif decide (ws=[])&&decide (rs=[])then(F60 S T D j 0 0).bind fun(x75,x76)=>iter (Q1k S T D vw r7.at_ []) m' (j,x75,x76,rs,ws)
    else some (Cmd.mk 1 r7.at_ [] ws rs [],j,0,0,rs)).bind drp):=by
    intro hbb hk
    cases hR:bR (tp T j)with
    | true=>
      have hlt:=K0e hR h0
      rw[V9w hR,Q0b,Q0c,Q0c,Option.bind_assoc]
      refine Ag.bind (K1t hr hw hb h0 (by omega) hR) (fun a j2 g0 g1 g2=>?_) (fun n a j2 g1 g2=>?_)
      ·dsimp only
       rw[Q0l (by simp only[List.length_cons,List.length_nil];omega),Option.bind_some,Option.bind_some]
       cases k with
       | zero=>omega
       | succ k=>exact Q9e hr hw hiw hb r7 i0 k m m' j2 ws (rs++[a]) (by omega) (by omega) g2 (by omega) (by omega) (by omega) (by omega) (by simp;omega) (fun _ e=>absurd e (by simp)) (fun _=>⟨by omega,by have:(nR a:Int)+5≤8 * (j2-j):=g0;rw[J2h];omega⟩)
      dsimp only
      rw[Q0l (by simp only[List.length_cons,List.length_nil];omega),Option.bind_some,Z9a vw _ m' (by omega)]
      exact Bad.mk g1 (by omega)
    | false=>
      rw[hR,Bool.or_false]at hbb
      have hlt:=K0d hbb h0
      rw[hbb,hk,Q0c,Q0b,Q0b,Q0c,Option.bind_assoc]
      refine Ag.bind (hw.ag j h1 h2) (fun a j2 g0 g1 g2=>?_) (fun n a j2 g1 g2=>?_)
      ·dsimp only
       rw[Q0l (by simp only[List.length_cons,List.length_nil];omega),Option.bind_some,Option.bind_some]
       cases k with
       | zero=>omega
       | succ k=>exact Q9e hr hw hiw hb r7 i0 k m m' j2 (ws++[a]) rs (by omega) (by omega) g2 (by omega) (by omega) (by omega) (by simp;omega) (by omega) (fun e _=>absurd e (by simp)) (fun _=>⟨by omega,by have:(nW a:Int)+5≤8 * (j2-j):=g0;rw[Z1b];omega⟩)
      dsimp only
      rw[Q0l (by simp only[List.length_cons,List.length_nil];omega),Option.bind_some,Z9a vw _ m' (by omega)]
      exact Bad.mk g1 (by omega)
   by_cases he:ws=[]∧rs=[]
   ·obtain⟨hk,hbb⟩:=hst he.1 he.2
    rw[hk,Bool.and_false,Q0b]
    have:=step hbb (by rw[hk,Bool.and_false])
    rw[hk,Bool.and_false]at this
    rw[Bool.and_false]
    exact this
   obtain⟨hp,hN⟩:=hpos (by
    by_cases hw0:ws=[]
    ·exact .inr fun hr0=>he ⟨hw0,hr0⟩
    exact .inl hw0)
   have hboth:(decide (ws=[])&&decide (rs=[]))=false:=by
    cases hb2:(decide (ws=[])&&decide (rs=[]))with
    | false=>rfl
    | true=>
      rw[Bool.and_eq_true,decide_eq_true_eq,decide_eq_true_eq]at hb2
      exact absurd hb2 he
   cases hk:(decide (ws=[])&&kyT (tp T j))with
   | true=>
     rw[Bool.and_eq_true]at hk
     have hr0:decide (rs=[])=false:=by
      rw[hk.1,Bool.true_and]at hboth
      exact hboth
     obtain⟨k1,k2⟩:=K2k hk.2
     rw[hk.1,hr0,hk.2,k2]
     simp only[Bool.not_false,Bool.and_self,Q0c,Q0b]
     rw[Z0s _ h0,Option.bind_some]
     dsimp only
     rw[Z9a vw _ m' (by omega)]
     exact Ag.no (by omega) (by omega)
   | false=>
     have hk2:((decide (ws=[])&&!decide (rs=[]))&&kyT (tp T j))=false:=by
      cases hk3:kyT (tp T j)with
      | false=>rw[Bool.and_false]
      | true=>
        rw[hk3,Bool.and_true]at hk
        rw[hk]
        rfl
     rw[hk2,Q0b]
     cases hbb:(bW (tp T j)||bR (tp T j))with
     | true=>
       have:=step hbb hk
       rw[hk]at this
       exact this
     | false=>
       rw[Bool.or_eq_false_iff]at hbb
       rw[hbb.1,hbb.2,hboth]
       exact Ag.ok (j:=j) ⟨show(1:Int)≠14 by decide,by rw[Q3d];simp only[nCs];omega⟩ (by omega) h2
theorem J8o(hr:OkR T D)(hw:HW S T D b iw ww vw)(hiw:0≤iw)(hb:(T.length:Int)≤b)(h0:0≤i)(h1:iw≤i)(h2:i≤T.length)(hk:kyT (tp T i)=false)(hbb:(bW (tp T i)||bR (tp T i))=true):
 Ag (Kc i) T.length (i+1) (b+6) (F231 ww S T D i) ((F181 vw 0 (tp T i).at_ [] S T D i 0 0 []).bind drp):=by
 have hT:=hr.ok.len
 rw[F231,Q1q h0 (by omega),Option.bind_some,F181]
 exact Q9e hr hw hiw hb (tp T i) i T.length BIG BIG i [] [] h1 (Int.le_refl _) h2 (by omega) (by unfold BIG;omega) (by unfold BIG;omega) (by simp;omega) (by simp;omega) (fun _ _=>⟨hk,hbb⟩) (fun h=>absurd h (by simp))
end
end Go.Abs.U48
namespace Go.Abs.U48
open Go Go.Proofs
section
variable {S:Str}{T:List Token}{D:List Str}{b ic iw:Int}{wc:PCm}{vc:RCm}{ww:PWd}{vw:RWd}{i j n:Int}
theorem Q9x(h0:0≤j)(h:j≤4000000000000000000)(hk:(tp T j).kind_≠3):F168 S T D j=some j:=by
 show Q3t S T D (iter (Q3t S T D) 1180591620717411303423) j=_
 rw[Q3t,Q1q h0 (by omega),Option.bind_some,decide_eq_false hk,Q0b]
theorem Q7z(ww:PWd)(i:Int):F257 ww S T D i=(F168 S T D i).bind fun x12=>(F84 0 S T D x12).bind fun r16=>(F129 r16).bind fun r20=>
 (bif !r20 then some (.inr ([],x12))else Q0g (ww S T D x12) fun(r24,r25)=>(appO 88 ([]:List Word) [r24]).bind fun out32=>iter (Q3b S T D ww) 1180591620717411303423 (r25,out32)):=by
 show Q3b S T D ww (iter (Q3b S T D ww) 1180591620717411303423) (i,[])=_
 rw[Q3b]
theorem X5o(ww:PWd)(e:F168 S T D i=some j)(h0:0≤j)(h:j≤4000000000000000000)(hk:(tp T j).kind_≠3):F257 ww S T D j=F257 ww S T D i:=by
 rw[Q7z ww i,Q7z ww j,e,Q9x h0 h hk]
theorem J1g(ww:PWd):∀ (m:Nat) (x:Int) (l l':List Word) (j:Int),iter (Q3b S T D ww) m (x,l)=some (.inr (l',j))→l.length≤l'.length
 | 0,_,_,_,_,h=>by cases h
 | m+1,x,l,l',j,h=>by
   have h:Q3b S T D ww (iter (Q3b S T D ww) m) (x,l)=some (.inr (l',j)):=h
   rw[Q3b]at h
   dsimp only at h
   obtain⟨x12,e1,h⟩:=obs h
   obtain⟨r16,e2,h⟩:=obs h
   obtain⟨r20,e3,h⟩:=obs h
   cases r20 with
   | false=>
     simp only[Bool.not_false,Q0c]at h
     cases h
     exact Nat.le_refl _
   | true=>
     simp only[Bool.not_true,Q0b]at h
     rcases Q0w h with⟨n,_,e⟩|⟨⟨a,k⟩,q,h⟩
     ·cases e
     obtain⟨o,e4,h⟩:=obs h
     have:=J1g ww m k o l' j h
     unfold appO at e4
     split at e4
     ·cases e4
      simp only[List.length_append,List.length_cons,List.length_nil]at this
      omega
     cases e4
theorem X5n(ww:PWd)(h:F257 ww S T D i=some (.inr ([],j))):F168 S T D i=some j:=by
 rw[Q7z]at h
 obtain⟨x12,e1,h⟩:=obs h
 obtain⟨r16,e2,h⟩:=obs h
 obtain⟨r20,e3,h⟩:=obs h
 cases r20 with
 | false=>
   simp only[Bool.not_false,Q0c]at h
   cases h
   exact e1
 | true=>
   simp only[Bool.not_true,Q0b]at h
   rcases Q0w h with⟨n,_,e⟩|⟨⟨a,k⟩,q,h⟩
   ·cases e
   obtain⟨o,e4,h⟩:=obs h
   have:=J1g ww _ k o [] j h
   unfold appO at e4
   split at e4
   ·cases e4
    simp at this
   cases e4
theorem J7q(vw:RWd)(j n:Int)(r:Str):Q4r vw S T D j r (47,n)=some (Word.mk 7 r [] [] [],j,47,n):=by
 rw[Q4r]
 dsimp only
 rw[F205,Z5i vw BIG (by unfold BIG;omega),Option.bind_some]
theorem K1i(ht:OkT T)(hw:HW S T D b iw ww vw)(hiw:0≤iw)(hb:(T.length:Int)≤b)(hbb:b≤2000000000000000000)(h0:0≤i)(h1w:iw≤i+1)(h2:i<T.length):
 Ag (Kw i) T.length (i+1) (b+6) (F286 ww S T D (i+1)) ((F59 S T D (i+1) 0 0).bind fun r33=>
  (F173 S T D (i+1) 0 0).bind fun(r38,x39,x40,x41)=>
  (bif decide (x40=0)then
    (F58 [40] S T D x39 x40 x41).bind fun r45=>
    (bif r45 then
      (F59 S T D x39 x40 x41).bind fun r49=>
      (bif decide (r49.at_=IntKind.wrap .i64 (r33.at_+(r33.text_.length:Int)))then
        (F97 S T D (IntKind.wrap .i64 (x39+1)) x40 x41).bind fun x54=>
        (F58 [41] S T D x54 x40 x41).bind fun r67=>
        (bif r67 then
          (F60 S T D x54 x40 x41).bind fun(x72,x73)=>
          Q4r vw S T D x54 r38 (x72,x73)
        else
         Q4r vw S T D x54 r38 (x40,x41))
      else
       some (Word.mk 2 r38 [] [] [],x39,x40,x41))
    else
     some (Word.mk 2 r38 [] [] [],x39,x40,x41))
  else
   some (Word.mk 2 r38 [] [] [],x39,x40,x41))):=by
 have hT:=ht.len
 rw[F286,Q1q (by omega) (by omega),Option.bind_some]
 cases hn:(plT (tp T (i+1))&&Q5n (tp T (i+1)).text_)with
 | false=>
   obtain⟨t,et,-⟩:=Q2e (S:=S) (T:=T) (D:=D) 0 0 (show 0≤i+1 by omega)
   rw[J5k ht (by omega) (by omega) hn,J5n ht (by omega) (by omega) hn,et,Option.bind_some,Option.bind_some]
   dsimp only
   rw[e47,Q0b]
   exact Ag.no (by omega) (by omega)
 | true=>
   have hlt2:=J3z (T:=T) (i:=i+1) (by rw[Bool.and_eq_true]at hn;exact hn.1) (by omega)
   rw[J5j ht (by omega) (by omega) hn,J1i ht (by omega) (by omega) hn,Z5b 0 0 (by omega) hlt2,Option.bind_some,Option.bind_some,Q2z]
   dsimp only
   rw[e00,Q0c,Z9f _ (by omega) (by omega),Option.bind_some,Q1j _ _ _ (by omega),Option.bind_some]
   cases hp:isT (tp T (i+1+1)) [40]with
   | false=>exact Ag.ok (show(nW _:Int)+5≤_ by rw[Q5x];simp only[nWs,nCs];omega) (by omega) (by omega)
   | true=>
     have hlt3:=Q2v hp (by omega)
     simp only[Bool.not_true,Q0b,Q0c]
     rw[Q1q (by omega) (by omega),Option.bind_some,Z5b 0 0 (by omega) hlt3,Option.bind_some]
     cases had:decide ((tp T (i+1+1)).at_=IntKind.wrap .i64 ((tp T (i+1)).at_+((tp T (i+1)).text_.length:Int)))with
     | false=>exact Ag.ok (show(nW _:Int)+5≤_ by rw[Q5x];simp only[nWs,nCs];omega) (by omega) (by omega)
     | true=>
       simp only[Bool.not_true,Q0b,Q0c]
       obtain⟨j',e1,e2,e3,e4,e5⟩:=Q6f (S:=S) ht (i:=i+1+1+1) (by omega) (by omega)
       rw[wr1 (by omega) (by omega),e2,Option.bind_some,Q1j _ _ _ (by omega),Option.bind_some,Z0s _ (by omega),Option.bind_some]
       dsimp only
       rw[J7q]
       have hg:=X5o (S:=S) (D:=D) ww (e1 D) (by omega) (by omega) e5
       rcases Z7o ht hw hiw hb (i:=j') (by omega) (by omega)with⟨n,p1,a,j2,p2,g1,g2⟩|⟨l,j2,p1,g1,g2,g3,hcase⟩
       ·cases hq:isT (tp T j') [41]with
        | true=>
          exfalso
          have hnw:=X1g hq
          rw[Q7z,Q9x (by omega) (by omega) e5,Option.bind_some,Q1q (by omega) (by omega),Option.bind_some,Q4u,Option.bind_some,hnw]at p1
          cases p1
        | false=>
          rw[Q0b,Q4r]
          dsimp only
          rw[←hg,p1,p2,Q3r,Option.bind_some]
          exact Ag.no (j:=j2) (by omega) (by omega)
       rw[←hg,p1,Q2z]
       dsimp only
       have hnil:l=[]→j2=j':=by
        intro hl
        rw[hl]at p1
        have:=X5n ww p1
        rw[Q9x (by omega) (by omega) e5]at this
        cases this
        rfl
       have hl0:decide ((l.length:Int)=0)=decide (l=[]):=by
        cases l with
        | nil=>rfl
        | cons a l=>rw[decide_eq_false (by simp only[List.length_cons];omega),decide_eq_false (by simp)]
       rw[hl0,Q7x (by omega),Z5e]
       cases hln:decide (l=[])with
       | true=>
         have:=hnil (of_decide_eq_true hln)
         subst this
         rw[Q0c,Q3r]
         cases hq:isT (tp T j2) [41]with
         | true=>
           rw[Q0c]
           exact Ag.no (by omega) (by omega)
         | false=>
           rw[Q0b,Q4r]
           dsimp only
           rcases hcase with⟨q1,q2⟩|⟨q1,a,j3,q2,g4,g5⟩
           ·rw[hq]at q1
            cases q1
           rw[q2,Option.bind_some]
           exact Ag.no (j:=j3) (by omega) (by omega)
       | false=>
         have hq:isT (tp T j') [41]=false:=by
          cases hq:isT (tp T j') [41]with
          | false=>rfl
          | true=>
            exfalso
            have hnw:=X1g hq
            rw[Q7z,Q9x (by omega) (by omega) e5,Option.bind_some,Q1q (by omega) (by omega),Option.bind_some,Q4u,Option.bind_some,hnw]at p1
            cases p1
            cases hln
         rw[Q0b,hq,Q0b,Q4r]
         dsimp only
         rcases hcase with⟨q1,q2⟩|⟨q1,a,j3,q2,g4,g5⟩
         ·have hlt5:=Q2v q1 (by omega)
          rw[q2,Option.bind_some,Q4o (by omega) (by omega) q1]
          exact Ag.ok (j:=j2+1) (show(nW _:Int)+5≤_ by have:=g3.2;rw[Q5x];simp only[nCs];omega) (by omega) (by omega)
         rw[q2,Option.bind_some,Q6y (by omega) (by omega) q1]
         exact Ag.no (j:=j3) (by omega) (by omega)
end
end Go.Abs.U48
namespace Go.Abs.U48
open Go Go.Proofs
section
variable {S:Str}{T:List Token}{D:List Str}{b ic iw:Int}{wc:PCm}{vc:RCm}{ww:PWd}{vw:RWd}{i j n:Int}
theorem Z3c{t:Token}{s:Str}(h:isT t s=true):t.kind_=2∧t.text_=s:=by
 rw[isT,Bool.and_eq_true,decide_eq_true_eq,decide_eq_true_eq]at h
 exact h
theorem Z7z(ht:OkT T)(h:HC S T D b ic wc vc)(hw:HW S T D b iw ww vw)(hic:0≤ic)(hiw:0≤iw)(hb:(T.length:Int)≤b)(hbb:b≤2000000000000000000)(h0:0≤i)(h1:ic≤i+1)(h1w:iw≤i+1)(h2:i≤T.length):
 Ag (Kw i) T.length (i+1) (b+6) (F274 wc ww S T D i) (F202 vc vw S T D i 0 0):=by
 have hT:=ht.len
 rw[F274,F202,Q1q h0 (by omega),Option.bind_some,Q4u,Option.bind_some]
 cases hbw:bW (tp T i)with
 | false=>
   obtain⟨t,et,k1,-⟩:=Q2e (S:=S) (T:=T) (D:=D) 0 0 h0
   rw[bW,Bool.or_eq_false_iff,Bool.or_eq_false_iff,Bool.or_eq_false_iff,Bool.or_eq_false_iff]at hbw
   obtain⟨g1,⟨⟨g2,g3⟩,g4⟩,g5⟩:=hbw
   simp only[Bool.not_false,Q0c]
   rw[Q7x h0,Q3r,et,Option.bind_some,k1,g1,Q0b]
   simp only[Q1j _ _ _ h0,Option.bind_some,g2,g3,g4,g5,Q0b]
   rw[Z0s _ h0]
   exact Ag.no h0 (by omega)
 | true=>
   have hlt:=K0d hbw h0
   simp only[Bool.not_true,Q0b]
   rw[Z5f,Z5b 0 0 h0 hlt,Option.bind_some,wr1 h0 (by omega)]
   cases hk:decide ((tp T i).kind_=1)with
   | true=>exact Ag.ok (show(nW _:Int)+5≤_ by rw[Q5x];simp only[nWs,nCs];omega) (by omega) (by omega)
   | false=>
     rw[Q0b,Q0b]
     simp only[Q1j _ _ _ h0,Option.bind_some]
     rw[bW,hk,Bool.false_or]at hbw
     cases g1:isT (tp T i) [36]with
     | true=>
       rw[(Z3c g1).2,Z4d g1 (by decide),decide_eq_true rfl,Q0c,Q0b,Q0c]
       have:=K1i ht hw hiw hb hbb h0 h1w hlt
       rcases this with⟨a,j,p1,p2,q0,q1,q2⟩|⟨n,a,j,p1,p2,q1,q2⟩
       ·rw[p1,Q2z]
        exact .inl ⟨a,j,rfl,p2,q0,q1,q2⟩
       rw[p1,Q3r]
       exact .inr ⟨n,a,j,rfl,p2,q1,q2⟩
     | false=>
     cases g2:isT (tp T i) [36,35]with
     | true=>
       rw[(Z3c g2).2,decide_eq_false (p:=([36,35]:Str)=[36]) (by decide),decide_eq_true rfl,Q0c,Q0b,Q0c]
       cases hn:(plT (tp T (i+1))&&Q5n (tp T (i+1)).text_)with
       | false=>
         rw[J5k ht (by omega) (by omega) hn,J5n ht (by omega) (by omega) hn,Q3r,Option.bind_some]
         exact Ag.no (j:=i+1+1) (by omega) (by omega)
       | true=>
         have hlt2:=J3z (T:=T) (i:=i+1) (by rw[Bool.and_eq_true]at hn;exact hn.1) (by omega)
         rw[J5j ht (by omega) (by omega) hn,J1i ht (by omega) (by omega) hn,Q2z,Option.bind_some]
         exact Ag.ok (j:=i+1+1) (show(nW _:Int)+5≤_ by rw[Q5x];simp only[nWs,nCs];omega) (by omega) (by omega)
     | false=>
     cases g3:isT (tp T i) [40]with
     | true=>
       rw[(Z3c g3).2,decide_eq_false (p:=([40]:Str)=[36]) (by decide),decide_eq_false (p:=([40]:Str)=[36,35]) (by decide),decide_eq_true rfl,Q0b,Q0b,Q0c,Q0b,Q0b,Q0c]
       rcases Z7o ht hw hiw hb (i:=i+1) (by omega) (by omega)with⟨n,e1,aa,j,e2,q1,q2⟩|⟨l,j,e1,q1,q2,q3,⟨e2,e3⟩|⟨e2,aa,j3,e3,q4,q5⟩⟩
       ·rw[e1,e2,Q3r,Option.bind_some]
        exact Ag.no (j:=j) q1 (by omega)
       ·have hlt4:=Q2v e2 (by omega)
        rw[e1,e3,Q2z,Option.bind_some]
        dsimp only
        rw[Q4o (by omega) (by omega) e2,Q2z]
        exact Ag.ok (j:=j+1) (show(nW _:Int)+5≤_ by have:=q3.2;rw[Q5x];simp only[nCs];omega) (by omega) (by omega)
       rw[e1,e3,Q2z,Option.bind_some]
       dsimp only
       rw[Q6y (by omega) (by omega) e2,Q3r]
       exact Ag.no (j:=j3) q4 (by omega)
     | false=>
       rw[g1,g2,g3,Bool.false_or,Bool.false_or,Bool.false_or]at hbw
       rw[(Z3c hbw).2,decide_eq_false (p:=([96]:Str)=[36]) (by decide),decide_eq_false (p:=([96]:Str)=[36,35]) (by decide),decide_eq_false (p:=([96]:Str)=[40]) (by decide),hbw]
       simp only[Q0b,Q0c]
       rcases Z4q ht h hic hb (by omega) (i:=i+1) (by omega) (by omega) (by omega)with⟨n,e1,k,a,nm,l,j,e2,q1,q2⟩|⟨l,j,e1,q1,q3,q2,-,e2⟩
       ·rw[e1,e2,Q3r,Option.bind_some]
        exact Ag.no (j:=j) q1 (by omega)
       rw[e1,e2,Q2z,Option.bind_some]
       exact Ag.ok (j:=j) (show(nW _:Int)+5≤_ by rw[Q5x];simp only[nWs];omega) (by omega) q2
theorem K0z(ht:OkT T)(vc:RCm)(vw:RWd)(h0:0≤j)(h:j≤2900000000000000000):∃a j',F202 vc vw S T D j 47 n=some (a,j',47,n)∧j≤j'∧j'≤j+3:=by
 obtain⟨t,et,-⟩:=Q2e (S:=S) (T:=T) (D:=D) 47 n h0
 obtain⟨t2,et2,-⟩:=Q2e (S:=S) (T:=T) (D:=D) 47 n (show 0≤j+1 by omega)
 obtain⟨a7,e7⟩:=X2q (S:=S) (T:=T) (D:=D) (n:=n) vc [123] [125] (i:=j+1) (by omega) (by omega)
 rw[F202,et,Option.bind_some,wr1 h0 (by omega),et2,X2s ht (by omega) (by omega),e7,J5d,F205,Z5i vw BIG (by unfold BIG;omega)]
 simp only[Q1j _ _ _ h0,Option.bind_some,e47,Q0b]
 cases decide (t.kind_=1)with
 | true=>exact⟨_,_,rfl,by omega,by omega⟩
 | false=>
   cases isT (tp T j) [36,35]with
   | true=>exact⟨_,_,rfl,by omega,by omega⟩
   | false=>
     cases isT (tp T j) [36]with
     | true=>exact⟨_,_,rfl,by omega,by omega⟩
     | false=>
       cases isT (tp T j) [40]with
       | true=>exact⟨_,_,rfl,by omega,by omega⟩
       | false=>
         cases isT (tp T j) [96]with
         | true=>exact⟨_,_,rfl,by omega,by omega⟩
         | false=>exact⟨_,_,rfl,by omega,by omega⟩
theorem X2r(ht:OkT T)(vc:RCm)(vw:RWd)(h0:0≤j)(h:j≤2900000000000000000):∃a j',F175 vc vw S T D j 47 n=some (a,j',47,n)∧j≤j'∧j'≤j+3:=by
 obtain⟨a,j',e,h1,h2⟩:=K0z (S:=S) (D:=D) (n:=n) ht vc vw h0 h
 refine⟨a,j',?_,h1,h2⟩
 rw[F175,e,Option.bind_some]
 rfl
theorem Z7f(vc:RCm)(vw:RWd)(m:Nat)(hm:0<m)(l:List Word)(hl:2≤l.length)(j n:Int)(h1:0≤j)(h2:j≤b):Bad b n (iter (Q4s S T D vc vw) m (j,47,n,l)):=by
 cases m with
 | zero=>omega
 | succ m=>
   show Bad b n (Q4s S T D vc vw (iter (Q4s S T D vc vw) m) (j,47,n,l))
   rw[Q4s]
   dsimp only
   rw[e47,Q0b,decide_eq_false (by omega),Q0b]
   exact Bad.mk h1 h2
theorem Z9g(ht:OkT T)(h:HC S T D b ic wc vc)(hw:HW S T D b iw ww vw)(hic:0≤ic)(hiw:0≤iw)(hb:(T.length:Int)≤b)(hbb:b≤2000000000000000000)(i0:Int):
 ∀ (k m m':Nat) (j:Int) (l:List Word),ic≤j+1→iw≤j+1→0≤j→i0<j→j≤T.length→(T.length:Int)≤j+k→k<m→k+1<m'→2≤l.length→(l.length:Int)≤j→(nWs l:Int)+6≤8 * (j-i0)→
 Ag (Kw i0) T.length (i0+1) (b+6) (iter (Q9l S T D wc ww) m (j,l)) (iter (Q4s S T D vc vw) m' (j,0,0,l))
 | k,0,_,_,_,_,_,_,_,_,_,hm,_,_,_,_=>absurd hm (Nat.not_lt_zero _)
 | k,_,0,_,_,_,_,_,_,_,_,_,hm,_,_,_=>absurd hm (Nat.not_lt_zero _)
 | k,m+1,m'+1,j,l,h1,h1w,h0,hi,h2,h3,h4,h5,h6,hll,hN=>by
   have hT:=ht.len
   have hl:¬ ((l.length:Int)=1):=by omega
   show Ag _ _ _ _ (Q9l S T D wc ww (iter (Q9l S T D wc ww) m) (j,l)) (Q4s S T D vc vw (iter (Q4s S T D vc vw) m') (j,0,0,l))
   rw[Q9l,Q4s]
   dsimp only
   rw[Q6v _ h0 (by omega),Option.bind_some,e00,Q0c,Q1j _ _ _ h0,Option.bind_some]
   dsimp only
   cases hs:isT (tp T j) [94]with
   | false=>
     simp only[Q0b]
     rw[decide_eq_false hl,Q0b,Q0b]
     exact Ag.ok (show(nW _:Int)+5≤_ by rw[Q5x];simp only[nCs];omega) (by omega) h2
   | true=>
     simp only[Q0c]
     have hlt:=Q2v hs h0
     rw[wr1 h0 (by omega)]
     refine Ag.bind (Z7z ht h hw hic hiw hb hbb (i:=j+1) (by omega) (by omega) (by omega) (by omega)) (fun a j2 g0 g1 g2=>?_) (fun n a j2 g1 g2=>?_)
     ·dsimp only
      rw[Q0l (by simp only[List.length_cons,List.length_nil];omega),Option.bind_some,Option.bind_some]
      cases k with
      | zero=>omega
      | succ k=>exact Z9g ht h hw hic hiw hb hbb i0 k m m' j2 (l++[a]) (by omega) (by omega) (by omega) (by omega) g2 (by omega) (by omega) (by omega) (by simp;omega) (by simp;omega) (by have:(nW a:Int)+5≤8 * (j2-(j+1)):=g0;rw[Z1b];omega)
     dsimp only
     rw[Q0l (by simp only[List.length_cons,List.length_nil];omega),Option.bind_some]
     exact Z7f vc vw m' (by omega) _ (by simp;omega) j2 n g1 g2
theorem X7t(ht:OkT T)(h:HC S T D b ic wc vc)(hw:HW S T D b iw ww vw)(hic:0≤ic)(hiw:0≤iw)(hb:(T.length:Int)≤b)(hbb:b≤2000000000000000000)(h0:0≤i)(h1:ic≤i+1)(h1w:iw≤i+1)(h2:i≤T.length):
 Ag (Kw i) T.length (i+1) (b+6) (F252 wc ww S T D i) (F175 vc vw S T D i 0 0):=by
 have hT:=ht.len
 rw[F252,F175]
 refine Ag.bind (Z7z ht h hw hic hiw hb hbb h0 h1 h1w h2) (fun a j g0 g1 g2=>?_) (fun n a j g1 g2=>?_)
 ·dsimp only
  rw[Q6v _ (by omega) (by omega),Option.bind_some,e00,Q0c,Q1j _ _ _ (by omega),Option.bind_some]
  dsimp only
  cases hs:isT (tp T j) [94]with
  | false=>exact Ag.ok g0 g1 g2
  | true=>
    simp only[Q0c]
    have hlt:=Q2v hs (by omega)
    rw[wr1 (by omega) (by omega)]
    refine Ag.bind (Z7z ht h hw hic hiw hb hbb (i:=j+1) (by omega) (by omega) (by omega) (by omega)) (fun a2 j2 g0' g3 g4=>?_) (fun n a2 j2 g3 g4=>?_)
    ·dsimp only
     rw[Q0l (by simp only[List.length_cons,List.length_nil];omega),Option.bind_some,Option.bind_some]
     exact Z9g ht h hw hic hiw hb hbb i T.length BIG BIG j2 [a,a2] (by omega) (by omega) (by omega) (by omega) g4 (by omega) (by unfold BIG;omega) (by unfold BIG;omega) (by simp) (by simp only[List.length_cons,List.length_nil];omega) (by have:(nW a:Int)+5≤8 * (j-i):=g0;have:(nW a2:Int)+5≤8 * (j2-(j+1)):=g0';simp only[nWs];omega)
    dsimp only
    rw[Q0l (by simp only[List.length_cons,List.length_nil];omega),Option.bind_some]
    exact Z7f vc vw BIG (by unfold BIG;omega) [a,a2] (by simp) j2 n g3 g4
 dsimp only
 rw[e47,Q0b]
 exact Bad.mk g1 g2
theorem K0y(ht:OkT T)(wc:PCm)(ww:PWd)(h0:0≤i)(h2:i≤T.length)(hbw:bW (tp T i)=false):F252 wc ww S T D i=some (.inl (atf S T i)):=by
 have hT:=ht.len
 rw[F252,F274,Q1q h0 (by omega),Option.bind_some,Q4u,Option.bind_some,hbw]
 simp only[Bool.not_false,Q0c]
 rw[Q7x h0]
 rfl
end
end Go.Abs.U48
namespace Go.Abs.U48
open Go Go.Proofs
section
variable {S:Str}{T:List Token}{D:List Str}{b ic iw:Int}{wc:PCm}{vc:RCm}{ww:PWd}{vw:RWd}{i j n:Int}
theorem J9s(t:Token):kyT t=((((((keyT t [105,102]||keyT t [119,104,105,108,101])||keyT t [102,111,114])||keyT t [115,119,105,116,99,104])||keyT t [99,97,115,101])||keyT t [102,110])||keyT t [126]):=by
 simp only[kyT,keyB,keyT]
 cases decide (t.kind_=1)with
 | false=>simp only[Bool.false_and,Bool.or_false]
 | true=>
   cases Q2k t.quoted_ with
   | true=>simp only[Bool.not_true,Bool.and_false,Bool.or_false]
   | false=>simp only[Bool.not_false,Bool.and_true,Bool.true_and]
theorem Z7e(ht:OkT T)(vw:RWd)(at_:Int)(h0:0≤i)(h:i≤3000000000000000000)(hbad:kyT (tp T i)=true∨(bW (tp T i)||bR (tp T i))=false):
 (F181 vw 0 at_ [] S T D i 0 0 []).bind drp=(bif kyT (tp T i)then some (Cmd.mk 1 at_ [] [] [] [],i+1,47,atf S T (i+1))else some (Cmd.mk 1 at_ [] [] [] [],i,47,atf S T i)):=by
 obtain⟨t,et,k1,k2,k3,-⟩:=Q2e (S:=S) (T:=T) (D:=D) 0 0 h0
 have hq:=(ht.tl i).2.1
 have hbR:bR (tp T i)=false:=by
  rcases hbad with hk|hk
  ·exact(K2k hk).2
  rw[Bool.or_eq_false_iff]at hk
  exact hk.2
 have hn:∀j n,((iter (Q1k S T D vw at_ []) 1180591620717411303423 (j,47,n,[],[])).bind drp)=some (Cmd.mk 1 at_ [] [] [] [],j,47,n):=fun j n=>Z9a vw at_ _ (by omega) j n [] []
 show(Q1k S T D vw at_ [] (iter (Q1k S T D vw at_ []) 1180591620717411303423) (i,0,0,[],[])).bind drp=_
 rw[Q1k]
 dsimp only
 rw[e00,Q0c,Z9b _ _ ht h0,Option.bind_some,hbR,Q0b,et,Option.bind_some,k1,k2,k3,Z5j _ _ h0,Option.bind_some,wr1 h0 (by omega)]
 rw[show decide (((([]:List Word).length:Nat):Int)=0)=true from rfl,Q0c,show decide (((([]:List Redir).length:Nat):Int)=0)=true from rfl,Q0c,Z0s _ (show 0≤i+1 by omega),Z0s _ h0,Option.bind_some,Option.bind_some,X2p]
 dsimp only
 rw[show decide (IntKind.wrap .i64 (((([]:List Word).length:Nat):Int)+((([]:List Redir).length:Nat):Int))=0)=true from rfl,Q0c,Z1r _ (by omega)]
 cases hk:kyT (tp T i)with
 | true=>
   rw[kyT]at hk
   simp only[Bool.and_eq_true]at hk
   rw[hk.1.1,Q0f,Option.bind_some,hk.1.2,Bool.true_and,Q0f,Option.bind_some]
   rw[hk.2,Bool.true_and,Q0c]
   exact hn _ _
 | false=>
   have hbw:bW (tp T i)=false:=by
    rcases hbad with hk2|hk2
    ·rw[hk]at hk2
     cases hk2
    rw[Bool.or_eq_false_iff]at hk2
    exact hk2.1
   have hk1:decide ((tp T i).kind_=1)=false:=by
    rw[bW,Bool.or_eq_false_iff]at hbw
    exact hbw.1
   rw[hk1,hbw]
   exact hn _ _
theorem X2m(ht:OkT T)(wc:PCm)(ww:PWd)(c:Bool)(h0:0≤i)(h2:i≤T.length)(hb:bC (tp T i)=false):F200 wc ww c S T D i=some (.inl (atf S T i)):=by
 have hT:=ht.len
 have hb':=hb
 rw[bC]at hb
 simp only[Bool.or_eq_false_iff]at hb
 obtain⟨⟨⟨⟨g1,g2⟩,g3⟩,g4⟩,g5⟩:=hb
 have hp:plT (tp T i)=false:=by
  rw[bW,Bool.or_eq_false_iff]at g1
  rw[plT,g1.1,Bool.false_and]
 have hk:kwT (tp T i)=[]:=by rw[kwT,hp];rfl
 have hcs:(c&&csT T i)=false:=by
  rw[csT,Z8b g1,Bool.false_and,Bool.and_false]
 rw[F200,Q1q h0 (by omega),Option.bind_some,K0u h0 (by omega),Option.bind_some,Z5o,Option.bind_some,hp]
 simp only[Q1p,Option.bind_some,Bool.false_and,Q0b,Z1t,g3,g4,g5,Z4z (ht.tl i).1,hk]
 show Q9m c S T D ww i=_
 rw[Q9m,Z4r c ht h0 (by omega),Option.bind_some,hcs,hb']
 simp only[Bool.not_false,Bool.and_false,Q0c]
 rw[Q7x h0]
 rfl
theorem V1n(hr:OkR T D)(h:HC S T D b ic wc vc)(hw:HW S T D b iw ww vw)(hic:0≤ic)(hiw:0≤iw)(hb:(T.length:Int)≤b)(hbb:b≤2000000000000000000)(c:Bool)(h0:0≤i)(h1:ic≤i+1)(h1w:iw≤i)(h2:i≤T.length):
 Ag (Kc i) T.length (i+1) (b+6) (F200 wc ww c S T D i) (F142 vc vw S T D i 0 0):=by
 have ht:=hr.ok
 have hT:=ht.len
 obtain⟨t0,et0,-,-,-,ht0⟩:=Q2e (S:=S) (T:=T) (D:=D) 0 0 h0
 cases hbc:bC (tp T i)with
 | false=>
   rw[X2m ht wc ww c h0 h2 hbc]
   have hbc':=hbc
   rw[bC]at hbc
   simp only[Bool.or_eq_false_iff]at hbc
   obtain⟨⟨⟨⟨g1,g2⟩,g3⟩,g4⟩,g5⟩:=hbc
   have hk:∀s,keyT (tp T i) s=false:=fun s=>Z8b g1
   have hp:plT (tp T i)=false:=by
    rw[bW,Bool.or_eq_false_iff]at g1
    rw[plT,g1.1,Bool.false_and]
   have hky:kyT (tp T i)=false:=by
    rw[J9s]
    simp only[hk,Bool.or_false]
   refine Ag.bad ?_ rfl
   rw[F142,et0,Option.bind_some]
   simp only[J3j _ _ ht h0 (show i≤4611686018427387904 by omega),asg,hp,Bool.false_and,Option.bind_some,Q0b,Q1j _ _ _ h0,g3,g4,g5,Q9q _ _ _ ht h0,hk,e00,Bool.not_true]
   have:=Z7e (S:=S) (D:=D) ht vw t0.at_ h0 (by omega) (.inr (by rw[g1,g2];rfl))
   rw[hky,Q0b]at this
   exact⟨Cmd.mk 1 t0.at_ [] [] [] [],i,this,h0,by omega⟩
 | true=>
   have hlt:i<T.length:=by
    rcases Int.lt_or_le i T.length with hl|hl
    ·exact hl
    rw[Q9t hl]at hbc
    exact absurd hbc (by decide)
   have et:F59 S T D i 0 0=some (tp T i):=Z5b 0 0 h0 hlt
   have wrapP:∀ (p:Option (Int ⊕ (Cmd×Int))),(Q0g p fun(r26,x27)=>some (.inr (r26,x27)))=p:=by
    intro p
    cases p with
    | none=>rfl
    | some x=>cases x<;>rfl
   have wrapR:∀ (p:Option (Cmd×Int×Int×Int)),(p.bind fun(r114,x115,x116,x117)=>some (r114,x115,x116,x117))=p:=by
    intro p
    cases p<;>rfl
   rw[F200,F142,Q1q h0 (by omega),Option.bind_some,K0u h0 (by omega),Option.bind_some,Z5o,Option.bind_some,et,Option.bind_some,e00,J3j _ _ ht h0 (by omega),Option.bind_some]
   simp only[wrapP,wrapR,Bool.not_true,Q0b]
   have hasg:((Q0e (plT (tp T i)) (F144 (tp T i).text_)).bind fun r19=>(Q0e (plT (tp T i)&&r19) (F128 (tp T (i+1)) [61])).bind fun r22=>some ((plT (tp T i)&&r19)&&r22))=some (asg T i):=by
    rw[asg]
    cases plT (tp T i)with
    | false=>rfl
    | true=>
      rw[Q0f,J3i _ (by have:=(ht.tl i).1;omega),Option.bind_some]
      cases Q5n (tp T i).text_<;>rfl
   obtain⟨r19,e19,hasg⟩:=obs hasg
   obtain⟨r22,e22,hasg⟩:=obs hasg
   rw[e19,Option.bind_some,e22,Option.bind_some,Option.some.inj hasg]
   cases ha:asg T i with
   | true=>
     rw[Q0c,Q0c]
     exact X1h ht h hw hb hbb c h0 h1 (by omega) ha
   | false=>
     rw[Q0b,Q0b]
     simp only[Z1t,Option.bind_some,Q1j _ _ _ h0,Q9q _ _ _ ht h0,Z4z (ht.tl _).1]
     cases g3:isT (tp T i) [33]with
     | true=>
       rw[Q0c,Q0c,Z4d g3 (by decide),Q0b,Z5m,wr1 h0 (by omega)]
       exact X5y ht h hb c 7 (by decide) (by decide) h0 h1 hlt
     | false=>
       rw[Q0b,Q0b]
       cases g4:isT (tp T i) [64]with
       | true=>
         rw[Q0c,Q0c,Q0c,wr1 h0 (by omega)]
         exact X5y ht h hb c 13 (by decide) (by decide) h0 h1 hlt
       | false=>
         rw[Q0b,Q0b]
         cases g5:isT (tp T i) [123]with
         | true=>
           rw[Q0c,Q0c]
           exact X4v hr h hw hic hiw hb hbb h0 h1 (by omega) hlt
         | false=>
           rw[Q0b,Q0b]
           simp only[Q3q (show kwsB [105,102]=true by kernel_rfl),Q3q (show kwsB [110,111,116]=true by kernel_rfl),Q3q (show kwsB [119,104,105,108,101]=true by kernel_rfl),Q3q (show kwsB [102,111,114]=true by kernel_rfl),Q3q (show kwsB [115,119,105,116,99,104]=true by kernel_rfl),Q3q (show kwsB [102,110]=true by kernel_rfl),Q3q (show kwsB [126]=true by kernel_rfl),Q3q (show kwsB [99,97,115,101]=true by kernel_rfl)]
           have txt:∀ {s:Str},keyT (tp T i) s=true→(tp T i).text_=s:=by
            intro s hk
            rw[keyT,Bool.and_eq_true,Bool.and_eq_true,decide_eq_true_eq,decide_eq_true_eq]at hk
            exact hk.1.2
           cases k1:keyT (tp T i) [105,102]with
           | true=>
             rw[Q0c,Q0c,F180,et,Option.bind_some,txt k1]
             simp only[decide_true,Q0c,wr1 h0 (show i≤4611686018427387904 by omega),Q9q _ _ _ ht (show 0≤i+1 by omega),Option.bind_some]
             cases kn:keyT (tp T (i+1)) [110,111,116]with
             | true=>
               have hlt2:=J1p (T:=T) (i:=i+1) (by rw[Z6j kn];decide) (by omega)
               rw[Q0c,Q0c,wr1 (by omega) (by omega),show i+1+1=i+2 by omega]
               exact K1x ht h hb c h0 h1 hlt2
             | false=>
               rw[Q0b,Q0b]
               exact J7v ht h hic hb hbb c 8 (by decide) h0 h1 hlt
           | false=>
           rw[Q0b,Q0b]
           cases k2:keyT (tp T i) [119,104,105,108,101]with
           | true=>
             rw[Q0c,Q0c,F180,et,Option.bind_some,txt k2]
             rw[show decide (([119,104,105,108,101]:Str)=[105,102])=false from rfl,decide_eq_true (p:=([119,104,105,108,101]:Str)=[119,104,105,108,101]) rfl,Q0b,Q0c,Q0b,wr1 h0 (by omega)]
             simp only[Q0c]
             exact J7v ht h hic hb hbb c 11 (by decide) h0 h1 hlt
           | false=>
           rw[Q0b,Q0b]
           cases k3:keyT (tp T i) [102,111,114]with
           | true=>
             rw[Q0c,Q0c,F180,et,Option.bind_some,txt k3]
             rw[show decide (([102,111,114]:Str)=[105,102])=false from rfl,show decide (([102,111,114]:Str)=[119,104,105,108,101])=false from rfl,decide_eq_true (p:=([102,111,114]:Str)=[102,111,114]) rfl,Q0b,Q0b,Q0c,wr1 h0 (by omega)]
             exact K6v ht h hw hic hiw hb hbb c h0 h1 (by omega) hlt
           | false=>
           rw[Q0b,Q0b]
           cases k4:keyT (tp T i) [115,119,105,116,99,104]with
           | true=>
             rw[Q0c,Q0c,F180,et,Option.bind_some,txt k4]
             rw[show decide (([115,119,105,116,99,104]:Str)=[105,102])=false from rfl,show decide (([115,119,105,116,99,104]:Str)=[119,104,105,108,101])=false from rfl,show decide (([115,119,105,116,99,104]:Str)=[102,111,114])=false from rfl,decide_eq_true (p:=([115,119,105,116,99,104]:Str)=[115,119,105,116,99,104]) rfl,Q0b,Q0b,Q0b,Q0c,wr1 h0 (by omega)]
             exact V3w ht h hw hic hiw hb hbb h0 h1 (by omega) hlt
           | false=>
           rw[Q0b,Q0b]
           cases k5:keyT (tp T i) [102,110]with
           | true=>
             rw[Q0c,Q0c,F180,et,Option.bind_some,txt k5]
             rw[show decide (([102,110]:Str)=[105,102])=false from rfl,show decide (([102,110]:Str)=[119,104,105,108,101])=false from rfl,show decide (([102,110]:Str)=[102,111,114])=false from rfl,show decide (([102,110]:Str)=[115,119,105,116,99,104])=false from rfl,decide_eq_true (p:=([102,110]:Str)=[102,110]) rfl,Q0b,Q0b,Q0b,Q0b,Q0c,wr1 h0 (by omega)]
             exact V7f ht h hic hb hbb h0 h1 hlt
           | false=>
           rw[Q0b,Q0b]
           cases k6:keyT (tp T i) [126]with
           | true=>
             rw[Q0c,Q0c,F180,et,Option.bind_some,txt k6]
             rw[show decide (([126]:Str)=[105,102])=false from rfl,show decide (([126]:Str)=[119,104,105,108,101])=false from rfl,show decide (([126]:Str)=[102,111,114])=false from rfl,show decide (([126]:Str)=[115,119,105,116,99,104])=false from rfl,show decide (([126]:Str)=[102,110])=false from rfl,Q0b,Q0b,Q0b,Q0b,Q0b,wr1 h0 (by omega)]
             rcases J8h ht hw hiw hb wc (i:=i) h0 (by omega) hlt with⟨n,e1,-,a,j',e3,q1,q2⟩|⟨ws,j2,e1,q1,q2,⟨hnw,hN⟩,e2,-⟩
             ·rw[e1,e3,Option.bind_some]
              exact Ag.no (j:=j') q1 (by omega)
             rw[e1,e2,Option.bind_some]
             exact Ag.ok (j:=j2) ⟨show(16:Int)≠14 by decide,by rw[Q3d];simp only[nCs,nRs];omega⟩ (by omega) q2
           | false=>
           rw[Q0b,Q0b]
           have hdr:((F181 vw 0 (tp T i).at_ [] S T D i 0 0 []).bind fun(r141,r142,r143,r144,o145)=>some (r141,r142,r143,r144))=(F181 vw 0 (tp T i).at_ [] S T D i 0 0 []).bind drp:=by
            congr 1
           cases k7:keyT (tp T i) [99,97,115,101]with
           | true=>
             have hky:kyT (tp T i)=true:=by
              rw[J9s,k7,Bool.or_true]
              rfl
             have:=Z7e (S:=S) (D:=D) ht vw (tp T i).at_ h0 (by omega) (.inl hky)
             rw[hky,Q0c]at this
             rw[Q0c,wr1 h0 (by omega),Q7x (by omega),Q3r]
             exact Ag.bad ⟨Cmd.mk 1 (tp T i).at_ [] [] [] [],i+1,this,by omega,by omega⟩ rfl
           | false=>
             have hky:kyT (tp T i)=false:=by
              rw[J9s,k1,k2,k3,k4,k5,k6,k7]
              rfl
             have hcs:(c&&csT T i)=false:=by
              rw[csT,k7,Bool.false_and,Bool.and_false]
             have hWR:(bW (tp T i)||bR (tp T i))=true:=by
              rw[bC,g3,g4,g5,Bool.or_false,Bool.or_false,Bool.or_false]at hbc
              exact hbc
             rw[Q0b,Q9m,Z4r c ht h0 (by omega),Option.bind_some,hcs,hbc]
             simp only[Bool.not_false,Bool.and_true,Bool.not_true,Q0b,wrapP]
             exact J8o hr hw hiw hb h0 h1w h2 hky hWR
theorem X2w(vc:RCm)(vw:RWd)(h0:0≤j):∃a,F142 vc vw S T D j 47 n=some (a,j,47,n):=by
 obtain⟨t,et,-⟩:=Q2e (S:=S) (T:=T) (D:=D) 47 n h0
 refine⟨Cmd.mk 0 t.at_ [] [] [] [],?_⟩
 rw[F142,et,Option.bind_some,e47]
 rfl
def bd(T:List Token)(k:Nat):Int:=T.length+10+6 * k
theorem X9c(hr:OkR T D):∀ (k:Nat),(k:Int)≤100000000→∀ (m:Nat),k+1≤m→
 (∀ic:Int,0≤ic→2 * ((T.length:Int)-ic)+2≤k→HC S T D (bd T k) ic (K200 m) (K142 m))∧
 (∀iw:Int,0≤iw→2 * ((T.length:Int)-iw)+1≤k→HW S T D (bd T k) iw (K252 m) (K175 m)):=by
 intro k
 induction k with
 | zero=>
   intro hk m hm
   cases m with
   | zero=>omega
   | succ m=>
   refine⟨fun ic h0 h1=>⟨fun c i h2 h3=>by omega,fun c i h2 h3=>by omega,fun j n hj=>X2w (K142 m) (K175 m) hj⟩,fun iw h0 h1=>⟨fun i h2 h3=>by omega,fun i h2 h3=>by omega,fun j n hj hj2=>X2r hr.ok (K142 m) (K175 m) hj hj2⟩⟩
 | succ k X9c=>
   intro hk m hm
   cases m with
   | zero=>omega
   | succ m=>
   have hT:=hr.ok.len
   obtain⟨iC,iW⟩:=X9c (by omega) m (by omega)
   have hbd:bd T (k+1)=bd T k+6:=by
    simp only[bd]
    omega
   have hb1:(T.length:Int)≤bd T k:=by
    simp only[bd]
    omega
   have hb2:bd T k≤2000000000000000000:=by
    simp only[bd]
    omega
   refine⟨fun ic h0 h1=>⟨fun c i h2 h3=>?_,fun c i h2 h3 hb=>X2m hr.ok (K200 m) (K252 m) c (by omega) h3 hb,fun j n hj=>X2w (K142 m) (K175 m) hj⟩,fun iw h0 h1=>⟨fun i h2 h3=>?_,fun i h2 h3 hb=>K0y hr.ok (K200 m) (K252 m) (by omega) h3 hb,fun j n hj hj2=>X2r hr.ok (K142 m) (K175 m) hj hj2⟩⟩
   ·rw[hbd]
    exact V1n hr (iC (i+1) (by omega) (by omega)) (iW i (by omega) (by omega)) (by omega) (by omega) hb1 hb2 c (by omega) (by omega) (by omega) h3
   rw[hbd]
   exact X7t hr.ok (iC (i+1) (by omega) (by omega)) (iW (i+1) (by omega) (by omega)) (by omega) (by omega) hb1 hb2 (by omega) (by omega) (by omega) h3
end
end Go.Abs.U48
namespace Go.Abs.U48.Lx
open Go
theorem Q8r(c:UInt8):∀a:Str,c∉a→Lib.indexByte a c=-1
 | [],_=>rfl
 | x::a,h=>by
   simp only[List.mem_cons,not_or]at h
   have ih:=Q8r c a h.2
   have h3:¬ x=c:=fun e=>h.1 e.symm
   simp[Lib.indexByte,ih,h3]
theorem indexByte_at(c:UInt8)(b:Str):∀a:Str,c∉a→Lib.indexByte (a++c::b) c=(a.length:Int)
 | [],_=>by simp[Lib.indexByte]
 | x::a,h=>by
   simp only[List.mem_cons,not_or]at h
   have ih:=indexByte_at c b a h.2
   have h1:¬ ((a.length:Int)=-1):=by omega
   have h3:¬ x=c:=fun e=>h.1 e.symm
   simp[Lib.indexByte,ih,h3,h1]
theorem cut_free{c:UInt8}{a:Str}(h:c∉a):Lib.cut a [c]=(a,[],false):=by
 unfold Lib.cut
 rw[Lib.index_one,Q8r c a h]
 rfl
theorem cut_at{c:UInt8}{a:Str}(b:Str)(h:c∉a):Lib.cut (a++c::b) [c]=(a,b,true):=by
 unfold Lib.cut
 rw[Lib.index_one,indexByte_at c b a h,if_pos (by omega)]
 simp
theorem firstOf(c:UInt8):∀t:Str,c∉t∨∃a b,c∉a∧t=a++c::b
 | []=>.inl (by simp)
 | x::t=>by
   by_cases h:x=c
   ·exact .inr ⟨[],t,by simp,by rw[h];rfl⟩
   rcases firstOf c t with h1|⟨a,b,h1,h2⟩
   ·exact .inl (by simp only[List.mem_cons,not_or];exact⟨fun e=>h e.symm,h1⟩)
   exact .inr ⟨x::a,b,by simp only[List.mem_cons,not_or];exact⟨fun e=>h e.symm,h1⟩,by rw[h2];rfl⟩
theorem Q9y(pre:Str)(c:UInt8)(r:Str):sidx (pre++c::r) (pre.length:Int)=some (B c):=by
 rw[J3s]
 simp[B]
theorem J6b(pre:Str)(r:Str):Q0t (pre++r) (pre.length:Int) ((pre++r).length:Int)=some r:=by
 unfold Q0t
 rw[if_pos ⟨by omega,by simp only[List.length_append];omega,by omega⟩]
 have:(((pre++r).length:Int)).toNat-(pre.length:Int).toNat=r.length:=by simp only[List.length_append];omega
 rw[this,Int.toNat_natCast]
 simp
theorem sslice_part(pre a r:Str):Q0t (pre++a++r) (pre.length:Int) ((pre++a).length:Int)=some a:=by
 unfold Q0t
 rw[if_pos ⟨by omega,by simp only[List.length_append];omega,by simp only[List.length_append];omega⟩]
 have:(((pre++a).length:Int)).toNat-(pre.length:Int).toNat=a.length:=by simp only[List.length_append];omega
 rw[this,Int.toNat_natCast]
 simp
theorem Bf{c d:UInt8}{k:Int}(hk:B d=k)(h:c≠d):decide (B c=k)=false:=by
 subst hk
 exact(Z1i c d).trans (decide_eq_false h)
theorem J8r(s e:Str)(from_ at_:Int)(again9:Int→Option (Str×Int×Int))(hl:s.length≤1000000):∀ (a pre rest:Str) (n:Nat),(10:UInt8)∉a→s=pre++a++rest→(rest=[]∨∃b,rest=10::b)→a.length<n→
 iter (Q7w s from_ e at_ again9) n (pre.length:Int)=(Q0t s from_ ((pre++a).length:Int)).bind fun t21=>
  bif decide (t21=e)then(Q0t s at_ from_).bind fun t25=>some (t25,imin (((pre++a).length:Int)+1) (s.length:Int),0)
  else again9 (((pre++a).length:Int)+1)
 | _,_,_,0,_,_,_,h=>absurd h (Nat.not_lt_zero _)
 | [],pre,rest,n+1,h10,hs,hr,hn=>by
   have hlen:s.length=pre.length+rest.length:=by rw[hs];simp
   show Q7w s _ _ _ _ _ _=_
   rw[Q7w]
   rcases hr with rfl|⟨b,rfl⟩
   ·have he:decide ((pre.length:Int)<(s.length:Int))=false:=decide_eq_false (by simp at hlen;omega)
    rw[he]
    simp only[Q0e,Q0b,Option.bind_some,Bool.false_and,List.append_nil]
    rw[Q0o (by omega) (by omega)]
   have he:decide ((pre.length:Int)<(s.length:Int))=true:=decide_eq_true (by simp at hlen;omega)
   have h1:sidx s (pre.length:Int)=some (B 10):=by rw[hs,List.append_nil];exact Q9y pre 10 b
   have h2:decide (B 10=10)=true:=by decide
   rw[he,h1]
   simp only[Q0e,Q0c,Option.bind_some,Bool.true_and,h2,Bool.not_true,Q0b,List.append_nil]
   rw[Q0o (by omega) (by omega)]
 | c::a,pre,rest,n+1,h10,hs,hr,hn=>by
   simp only[List.mem_cons,not_or]at h10
   have hlen:s.length=pre.length+(a.length+1)+rest.length:=by rw[hs];simp;omega
   have he:decide ((pre.length:Int)<(s.length:Int))=true:=decide_eq_true (by omega)
   have h1:sidx s (pre.length:Int)=some (B c):=by
    rw[hs,List.append_assoc]
    exact Q9y pre c (a++rest)
   have h2:decide (B c=10)=false:=Bf (d:=10) rfl fun e=>h10.1 e.symm
   show Q7w s _ _ _ _ _ _=_
   rw[Q7w,he,h1]
   simp only[Q0e,Q0c,Option.bind_some,Bool.true_and,h2,Bool.not_false]
   rw[Q0o (by omega) (by omega)]
   have ih:=J8r s e from_ at_ again9 hl a (pre++[c]) rest n h10.2 (by rw[hs];simp) hr (by simp at hn;omega)
   have e1:((pre++[c]).length:Int)=(pre.length:Int)+1:=by simp
   have e2:pre++[c]++a=pre++c::a:=by simp
   rw[e1,e2]at ih
   exact ih
def res(e:Str):Str→List Str→List Int→Str×Int×Int
 | d,a::L,x::E=>if a=e then(d,x,0)else res e (d++(a++[10])) L E
 | _,_,_=>([],0,3)
def J0m(L:List Str):Str:=L.flatMap (·++[10])
theorem both{s e pre:Str}(hl:s.length≤1000000):∀ (k:Nat) (t d:Str),t.length≤k→s=pre++d++t→∃ (L:List Str) (E:List Int),L.length=E.length∧L.length≤t.length∧(J0m L).length≤t.length+1∧
 (∀n ls es,t.length<n→ls.length+t.length≤3000000→es.length+t.length≤3000000→iter (Q5s s) n (((pre++d).length:Int),ls,es)=some (ls++L,es++E))∧
 (∀n,t.length<n→iter (Q5k s e (pre.length:Int)) n ((pre++d).length:Int)=some (res e d L E)):=by
 have empty:∀ (t d:Str),t=[]→s=pre++d++t→
  (∀n ls es,t.length<n→iter (Q5s s) n (((pre++d).length:Int),ls,es)=some (ls,es))∧
  (∀n (p:Int),t.length<n→(s.length:Int)≤p→iter (Q5k s e (pre.length:Int)) n p=some ([],0,3)):=by
  intro t d ht hs
  subst ht
  have hlen:s.length=(pre++d).length:=by rw[hs];simp
  refine⟨fun n ls es hn=>?_,fun n p hn hp=>?_⟩
  ·match n,hn with
   | n+1,_=>
     show Q5s s _ _=_
     rw[Q5s,decide_eq_false (by omega),Q0b]
  match n,hn with
  | n+1,_=>
    show Q5k s _ _ _ _=_
    rw[Q5k,decide_eq_false (by omega),Q0b]
 intro k
 induction k with
 | zero=>
   intro t d ht hs
   have ht:t=[]:=List.length_eq_zero_iff.1 (by omega)
   have hE:=empty t d ht hs
   subst ht
   have hlen:s.length=(pre++d).length:=by rw[hs];simp
   exact⟨[],[],rfl,Nat.le_refl _,by simp[J0m],fun n ls es hn _ _=>by rw[List.append_nil,List.append_nil];exact hE.1 n ls es hn,fun n hn=>hE.2 n _ hn (by omega)⟩
 | succ k ih=>
   intro t d ht hs
   by_cases h0:t=[]
   ·have hE:=empty t d h0 hs
    subst h0
    have hlen:s.length=(pre++d).length:=by rw[hs];simp
    exact⟨[],[],rfl,Nat.le_refl _,by simp[J0m],fun n ls es hn _ _=>by rw[List.append_nil,List.append_nil];exact hE.1 n ls es hn,fun n hn=>hE.2 n _ hn (by omega)⟩
   have hpos:0<t.length:=List.length_pos_iff.2 h0
   have hlen:s.length=(pre++d).length+t.length:=by rw[hs];simp;omega
   have hlt:decide (((pre++d).length:Int)<(s.length:Int))=true:=decide_eq_true (by omega)
   have hsl:Q0t s ((pre++d).length:Int) (s.length:Int)=some t:=by
    rw[hs]
    exact J6b (pre++d) t
   have hsd:Q0t s (pre.length:Int) ((pre++d).length:Int)=some d:=by
    rw[hs]
    exact sslice_part pre d t
   rcases firstOf 10 t with hf|⟨a,b,hf,rfl⟩
   ·have hs':s=(pre++(d++t))++[]:=by rw[hs];simp
    have hE:=empty [] (d++t) rfl (by rw[hs];simp)
    have e1:(((pre++(d++t)).length:Nat):Int)=((pre++d).length:Int)+(t.length:Int):=by simp;omega
    refine⟨[t],[((pre++d).length:Int)+(t.length:Int)],rfl,hpos,by simp[J0m],fun n ls es hn hls hes=>?_,fun n hn=>?_⟩
    ·match n,hn with
     | n+1,hn=>
       show Q5s s _ _=_
       rw[Q5s,hlt,Q0c,hsl]
       simp only[Option.bind_some]
       rw[Z5y,if_pos (by omega),cut_free hf]
       simp only[Option.bind_some,Q0b]
       rw[Q0o (n:=((pre++d).length:Int)+(t.length:Int)) (by omega) (by omega),appO,if_pos (by simp;omega)]
       simp only[Option.bind_some]
       rw[appO,if_pos (by simp;omega)]
       simp only[Option.bind_some]
       have:=hE.1 n (ls++[t]) (es++[((pre++d).length:Int)+(t.length:Int)]) (by simp;omega)
       rw[e1]at this
       exact this
    match n,hn with
    | n+1,hn=>
      show Q5k s _ _ _ _=_
      rw[Q5k,hlt,Q0c,J8r s e _ _ _ hl t (pre++d) [] BIG hf (by rw[hs,List.append_nil]) (.inl rfl) (by unfold BIG;omega)]
      have e2:((pre++d++t).length:Int)=(s.length:Int):=by rw[hs]
      rw[e2,hsl]
      simp only[Option.bind_some,hsd]
      by_cases he:t=e
      ·rw[decide_eq_true he,Q0c,res,if_pos he]
       have:imin ((s.length:Int)+1) (s.length:Int)=((pre++d).length:Int)+(t.length:Int):=by unfold imin;split<;>omega
       rw[this]
      rw[decide_eq_false he,Q0b,res,if_neg he]
      exact hE.2 n _ (by simp;omega) (by omega)
   have hb:b.length≤k:=by simp at ht;omega
   have hs2:s=pre++(d++(a++[10]))++b:=by rw[hs];simp
   obtain⟨L,E,q1,q2,q3,q4,q5⟩:=ih b (d++(a++[10])) hb hs2
   have e1:(((pre++(d++(a++[10]))).length:Nat):Int)=((pre++d).length:Int)+(a.length:Int)+1:=by simp;omega
   rw[e1]at q4 q5
   have hta:(a++10::b).length=a.length+b.length+1:=by simp;omega
   refine⟨a::L,(((pre++d).length:Int)+(a.length:Int)+1)::E,by simp[q1],by simp;omega,by simp[J0m]at q3 ⊢;omega,fun n ls es hn hls hes=>?_,fun n hn=>?_⟩
   ·match n,hn with
    | n+1,hn=>
      show Q5s s _ _=_
      rw[Q5s,hlt,Q0c,hsl]
      simp only[Option.bind_some]
      rw[Z5y,if_pos (by omega),cut_at b hf]
      simp only[Option.bind_some,Q0c]
      rw[Q0o (n:=((pre++d).length:Int)+(a.length:Int)) (by omega) (by omega),Q0o (by omega) (by omega),appO,if_pos (by simp;omega)]
      simp only[Option.bind_some]
      rw[appO,if_pos (by simp;omega)]
      simp only[Option.bind_some]
      have:=q4 n (ls++[a]) (es++[((pre++d).length:Int)+(a.length:Int)+1]) (by omega) (by simp;omega) (by simp;omega)
      rw[this]
      simp
   match n,hn with
   | n+1,hn=>
     show Q5k s _ _ _ _=_
     rw[Q5k,hlt,Q0c,J8r s e _ _ _ hl a (pre++d) (10::b) BIG hf (by rw[hs];simp) (.inr ⟨b,rfl⟩) (by unfold BIG;omega)]
     have hsa:Q0t s ((pre++d).length:Int) ((pre++d++a).length:Int)=some a:=by
      have:s=(pre++d)++a++10::b:=by rw[hs];simp
      rw[this]
      exact sslice_part (pre++d) a (10::b)
     have e2:((pre++d++a).length:Int)=((pre++d).length:Int)+(a.length:Int):=by simp;omega
     rw[hsa]
     simp only[Option.bind_some,hsd]
     by_cases he:a=e
     ·rw[decide_eq_true he,Q0c,res,if_pos he,e2]
      have:imin (((pre++d).length:Int)+(a.length:Int)+1) (s.length:Int)=((pre++d).length:Int)+(a.length:Int)+1:=by unfold imin;split<;>omega
      rw[this]
     rw[decide_eq_false he,Q0b,res,if_neg he,e2]
     exact q5 n (by omega)
def BAD:Str:=[32,9,10,59,38,124,40,41,123,125,60,62,61,94,96,36,39,92,42,63,91]
def badc(c:UInt8):Bool:=BAD.contains c
def V4s(c:UInt8):Bool:=([35,33,64]:Str).contains c
def K1y:Str→Bool
 | []=>false
 | c::r=>!V4s c&&(c::r).all fun x=>!badc x
def nl:Str→Bool
 | []=>false
 | d::_=>decide (d=10)
theorem B32(c:UInt8):decide (B c=32)=decide (c=32):=Z1i c 32
theorem B9(c:UInt8):decide (B c=9)=decide (c=9):=Z1i c 9
theorem B92(c:UInt8):decide (B c=92)=decide (c=92):=Z1i c 92
theorem B10(c:UInt8):decide (B c=10)=decide (c=10):=Z1i c 10
def gap(c:UInt8)(r:Str):Int:=bif decide (c=32)||decide (c=9)then 1 else bif decide (c=92)&&nl r then 2 else 0
theorem J1f{s pre:Str}{c:UInt8}{r:Str}(hs:s=pre++c::r)(hl:s.length≤1000000):F88 s (pre.length:Int)=some (gap c r):=by
 have hlen:s.length=pre.length+(r.length+1):=by rw[hs];simp
 have h1:sidx s (pre.length:Int)=some (B c):=by rw[hs];exact Q9y pre c r
 unfold F88 gap
 rw[decide_eq_true (by omega),h1]
 simp only[Q0e,Q0c,Option.bind_some,Bool.true_and,B32,B9]
 cases decide (c=32)||decide (c=9)with
 | true=>rfl
 | false=>
   simp only[Q0b]
   rw[Q0o (by omega) (by omega)]
   match r,hs with
   | [],hs=>
     rw[decide_eq_false (by simp at hlen;omega)]
     simp[Q0e,nl]
   | d::r,hs=>
     have h2:sidx s ((pre.length:Int)+1)=some (B d):=by
      have:s=(pre++[c])++d::r:=by rw[hs];simp
      have h:=Q9y (pre++[c]) d r
      rw[←this]at h
      simpa using h
     rw[decide_eq_true (by simp at hlen;omega)]
     simp only[Q0c,Option.bind_some,Bool.true_and,B92]
     cases decide (c=92)with
     | false=>simp[Q0e]
     | true=>
       simp only[Q0c,h2,Option.bind_some,B10,Bool.true_and,nl]
       cases decide (d=10)<;>rfl
def dbl:Str→Str
 | []=>[]
 | c::r=>if c=39 then 39::39::dbl r else c::dbl r
def quote(s:Str):Str:=bif K1y s then s else 39::(dbl s++[39])
def SYMI:Str:=[32,9,10,59,38,124,40,41,123,125,60,62,61,94,96,36,39]
def ord:Str→Bool
 | []=>false
 | c::r=>!SYMI.contains c&&!([92,10]:Str).isPrefixOf (c::r)
def START:Str:=[59,38,40,41,123,125,61,94,96,36,33,64]
theorem X5x{p c:UInt8}{q r:Str}(h:c≠p):(p::q).isPrefixOf (c::r)=false:=by
 have:(p==c)=false:=by simp;exact fun e=>h e.symm
 simp[List.isPrefixOf,this]
def blankN:Str→Nat
 | []=>0
 | [c]=>if c=32∨c=9 then 1 else 0
 | c::d::r=>if c=32∨c=9 then 1+blankN (d::r)else if c=92∧d=10 then 2+blankN r else 0
def qd:Str→Option (Str×Nat)
 | []=>none
 | [c]=>if c=39 then some ([],1)else none
 | c::d::r=>if c=39 then(if d=39 then(qd r).map fun(x,n)=>(39::x,n+2)else some ([],1))else(qd (d::r)).map fun(x,n)=>(c::x,n+1)
def wd:Nat→Str→Except Nat (Str×Str×Nat)
 | 0,_=>.ok ([],[],0)
 | _+1,[]=>.ok ([],[],0)
 | k+1,c::r=>bif ord (c::r)then(match wd k r with
    | .error e=>.error (e+1)
    | .ok (x,q,n)=>.ok (c::x,48::q,n+1))
   else if c=39 then(match qd r with
    | none=>.error 0
    | some (x,m)=>match wd k (r.drop m)with
      | .error e=>.error (e+(m+1))
      | .ok (y,q,n)=>.ok (x++y,List.replicate x.length 49++q,n+(m+1)))
   else .ok ([],[],0)
def push(l:List Token)(u:Token):Except (Int×Int) (List Token):=if 1024≤l.length then .error (u.at_,4)else .ok (l++[u])
def hats(u:Token)(touch:Bool):Bool:=touch&&(decide (u.kind_=1)||(decide (u.kind_=2)&&match u.text_ with|[]=>false|c::_=>([36,96]:Str).contains c))
def hat(l:List Token)(u:Token)(touch:Bool):Except (Int×Int) (List Token):=
 bif hats u touch then(match push l ⟨2,u.at_,[94],[]⟩with
  | .error e=>.error e
  | .ok l1=>push l1 u)
 else push l u
def Q5n(c:UInt8):Bool:=(F126 (B c)).getD false
def X3x:Str→Nat
 | []=>0
 | c::r=>bif Q5n c then X3x r+1 else 0
def name(p:Nat)(t:Str)(l:List Token):Except (Int×Int) (List Token):=
 if X3x t=0 then .error (p,47)else push l ⟨1,p,t.take (X3x t),List.replicate (X3x t) 48⟩
def brk(t:Str)(pair:Bool):Nat:=((F125 t pair).getD 0).toNat
def symB:List Str→Str→Except Nat Str
 | [],_=>.ok []
 | w::ws,t=>bif w.isPrefixOf t then(bif ([91]:Str).isPrefixOf (t.drop w.length)then
    (if brk (t.drop w.length) (!decide (w=[124]))=0 then .error w.length else .ok (t.take (w.length+brk (t.drop w.length) (!decide (w=[124])))))
    else .ok w)else symB ws t
def symA:List Str→Str→Except Nat Str
 | [],[]=>.ok []
 | [],c::r=>bif START.contains c then .ok [c]else symB [[62,62],[62],[60],[124]] (c::r)
 | w::ws,t=>bif w.isPrefixOf t then .ok w else symA ws t
def sym(t:Str):Except Nat Str:=symA [[38,38],[124,124],[36,35]] t
def here(p:Nat)(t:Str)(l:List Token)(ns:List Str):Except (Int×Int) (List Token×List Str×Nat):=
 match wd (t.drop (2+blankN (t.drop 2))).length (t.drop (2+blankN (t.drop 2)))with
 | .error e=>.error (((p+(2+blankN (t.drop 2))+e:Nat):Int),48)
 | .ok (x,q,m)=>bif decide (m=0)then .error (((p+(2+blankN (t.drop 2)):Nat):Int),47)else match push l ⟨4,p,x,q⟩with
   | .error e=>.error e
   | .ok l1=>.ok (l1,ns++[x],2+blankN (t.drop 2)+m)
def isD(c:UInt8):Bool:=decide (48≤c.toNat)&&decide (c.toNat≤57)
def two(c d:UInt8):Option Nat:=if c=48 then none else if 10 * (c.toNat-48)+(d.toNat-48)<64 then some 2 else none
def hd0:Str→Bool
 | []=>false
 | c::_=>isD c
theorem J8p{s pre:Str}{d:Str}{c:UInt8}{r:Str}(hs:s=pre++(d++c::r)):sidx s ((pre.length+d.length:Nat):Int)=some (B c):=by
 have h:=Q9y (pre++d) c r
 rw[List.append_assoc,←hs,List.length_append]at h
 exact h
end Go.Abs.U48.Lx
namespace Go.Abs.U48
open Go Go.Proofs
theorem V1r{s e:Str}{at_ f:Int}{again:Int→Option (Str×Int×Int)}(hg:∀p r,again p=some r→r.1.length≤s.length):∀ (n:Nat) (p:Int) (r:Str×Int×Int),iter (Q7w s f e at_ again) n p=some r→r.1.length≤s.length:=by
 intro n
 induction n with
 | zero=>intro p r h;cases h
 | succ n ih=>
   intro p r h
   replace h:Q7w s f e at_ again (iter (Q7w s f e at_ again) n) p=some r:=h
   rw[Q7w]at h
   obtain⟨c,-,h⟩:=Option.bind_eq_some_iff.1 h
   revert h
   cases(decide (p<(s.length:Int))&&!decide (c=10))with
   | true=>exact fun h=>ih _ _ h
   | false=>
     rw[Q0b]
     intro h
     obtain⟨t,-,h⟩:=Option.bind_eq_some_iff.1 h
     revert h
     cases decide (t=e)with
     | false=>exact fun h=>hg _ _ h
     | true=>
       rw[Q0c]
       intro h
       obtain⟨u,h1,h⟩:=Option.bind_eq_some_iff.1 h
       injection h with h
       subst h
       have:=(Q0p h1).2.2.2.2
       rw[←this,List.length_take,List.length_drop]
       omega
theorem K0w{s e:Str}{at_:Int}{r:Str×Int×Int}(h:F54 s at_ e=some r):r.1.length≤s.length:=by
 rw[F54]at h
 revert h
 cases(decide (at_<0)||decide ((s.length:Int)<at_))with
 | true=>
   rw[Q0c]
   intro h
   injection h with h
   subst h
   exact Nat.zero_le _
 | false=>
   rw[Q0b]
   have:∀ (n:Nat) (p:Int) (r:Str×Int×Int),iter (Q5k s e at_) n p=some r→r.1.length≤s.length:=by
    intro n
    induction n with
    | zero=>intro p r h;cases h
    | succ n ih=>
      intro p r h
      replace h:Q5k s e at_ (iter (Q5k s e at_) n) p=some r:=h
      rw[Q5k]at h
      revert h
      cases decide (p<(s.length:Int))with
      | true=>exact fun h=>V1r ih BIG _ _ h
      | false=>
        rw[Q0b]
        intro h
        injection h with h
        subst h
        exact Nat.zero_le _
   exact fun h=>this _ _ _ h
def hre(S:Str)(a:Int)(e:Str):Str×Int×Int:=(F54 S a e).getD ([],0,0)
theorem X0c{S:Str}(hs:S.length≤1000000)(a:Int)(e:Str):F72 S a e=some (hre S a e)∧F54 S a e=some (hre S a e)∧(hre S a e).1.length≤1000000:=by
 obtain⟨r,h1,h2⟩:=Lx.heres (s:=S) (e:=e) (at_:=a) hs
 have h3:=K0w h2
 rw[hre,h2]
 exact⟨h1,rfl,Nat.le_trans h3 hs⟩
def hk(T:List Token):Nat→Nat→List Int
 | _,0=>[]
 | k,n+1=>if (tp T (k:Int)).kind_=4 then(k:Int)::hk T (k+1) n else hk T (k+1) n
theorem X0d(T:List Token):∀ (n k:Nat),hk T k (n+1)=hk T k n++if (tp T ((k+n:Nat):Int)).kind_=4 then[((k+n:Nat):Int)]else[]
 | 0,k=>by
   rw[hk,hk,hk,Nat.add_zero,List.nil_append]
 | n+1,k=>by
   rw[hk,X0d T n (k+1),hk,show k+1+n=k+(n+1)by omega]
   by_cases h:(tp T (k:Int)).kind_=4
   ·rw[if_pos h,if_pos h]
    rfl
   rw[if_neg h,if_neg h]
theorem X5z(T:List Token):∀ (n k:Nat),(hk T k n).length≤n
 | 0,k=>Nat.le_refl _
 | n+1,k=>by
   have:=X5z T n (k+1)
   rw[hk]
   split
   ·rw[List.length_cons];omega
   omega
def dst(S:Str)(T:List Token):List Int→Int→List Str→List Str
 | [],_,D=>D
 | k::r,a,D=>dst S T r (hre S a (tp T k).text_).2.1 (D.set k.toNat (hre S a (tp T k).text_).1)
theorem X0v(S:Str)(T:List Token):∀ (l:List Int) (a:Int) (D:List Str),(dst S T l a D).length=D.length
 | [],_,_=>rfl
 | k::r,a,D=>by rw[dst,X0v S T r,List.length_set]
theorem J0v{S:Str}(hs:S.length≤1000000)(T:List Token):∀ (l:List Int) (a:Int) (D:List Str),(∀d∈D,d.length≤1000000)→∀d∈dst S T l a D,d.length≤1000000
 | [],_,_,h=>h
 | k::r,a,D,h=>by
   rw[dst]
   refine J0v hs T r _ _ (fun d hd=>?_)
   rcases List.mem_or_eq_of_mem_set hd with hd|rfl
   ·exact h d hd
   exact(X0c hs _ _).2.2
section
variable {S:Str}{T:List Token}
theorem lset{D:List Str}{k:Int}(h0:0≤k)(h:k<D.length):∃w,lidx D k=some w:=by
 have hn:k.toNat<D.length:=by omega
 exact⟨D[k.toNat],by rw[lidx,if_pos h0,List.getElem?_eq_getElem hn]⟩
theorem V1q(hs:S.length≤1000000)(hT:T.length≤1000000)(again:Int×List Str×List Int→Option (List Str))(i:Int):∀ (r pre:List Int) (m:Nat) (a:Int) (D:List Str),
 r.length<m→D.length=T.length→(pre++r).length≤1000000→(∀k∈r,0≤k∧k<T.length)→
 iter (Z2l (pre++r) T S again i) m (a,(pre.length:Int),D)=again (IntKind.wrap .i64 (i+1),dst S T r a D,[])
 | [],pre,m+1,a,D,hm,hD,hl,hr=>by
   show Z2l _ _ _ _ _ _ _=_
   rw[Z2l]
   try dsimp only
   rw[List.append_nil,decide_eq_false (by omega),Q0b,dst]
 | k::r,pre,m+1,a,D,hm,hD,hl,hr=>by
   show Z2l _ _ _ _ _ _ _=_
   have h1:=(hr k (.head _)).1
   have h2:=(hr k (.head _)).2
   obtain⟨w,hw⟩:=lset (D:=D) h1 (by omega)
   simp only[List.length_append,List.length_cons]at hl hm
   have hx:lidx (pre++k::r) (pre.length:Int)=some k:=by
    rw[J4d]
    simp
   rw[Z2l]
   try dsimp only
   rw[decide_eq_true (by simp only[List.length_append,List.length_cons];omega),Q0c,hx,Option.bind_some,Q7i h1 h2,Option.bind_some,(X0c hs _ _).1,Option.bind_some]
   try dsimp only
   rw[hw,Option.bind_some,wr1 (by omega) (by omega)]
   have:=V1q hs hT again i r (pre++[k]) m (hre S a (tp T k).text_).2.1 (D.set k.toNat (hre S a (tp T k).text_).1) (by omega) (by rw[List.length_set];exact hD) (by simp only[List.length_append,List.length_cons,List.length_nil];omega) (fun x hx=>hr x (.tail _ hx))
   rw[List.append_assoc,List.singleton_append,List.length_append,List.length_cons,List.length_nil]at this
   exact this
theorem K0f(hs:S.length≤1000000)(hT:T.length≤1000000)(again:Int×Int×List Str→Option (List Str))(i:Nat)(hi:i≤T.length):∀ (n k m:Nat) (a:Int) (D:List Str),
 k+n=i→n<m→D.length=T.length→
 iter (Z5g (i:Int) T S again) m (a,(k:Int),D)=again ((i:Int),IntKind.wrap .i64 ((i:Int)+1),dst S T (hk T k n) a D)
 | 0,k,m+1,a,D,hk',hm,hD=>by
   show Z5g _ _ _ _ _ _=_
   rw[Z5g]
   try dsimp only
   rw[decide_eq_false (by omega),Q0b,hk,dst]
 | n+1,k,m+1,a,D,hk',hm,hD=>by
   show Z5g _ _ _ _ _ _=_
   obtain⟨w,hw⟩:=lset (D:=D) (k:=(k:Int)) (by omega) (by omega)
   rw[Z5g]
   try dsimp only
   rw[decide_eq_true (by omega),Q0c,Q7i (by omega) (by omega),Option.bind_some,wr1 (by omega) (by omega),hk]
   by_cases h4:(tp T (k:Int)).kind_=4
   ·rw[decide_eq_true h4,Q0c,if_pos h4,(X0c hs _ _).2.1,Option.bind_some]
    try dsimp only
    rw[hw,Option.bind_some,dst]
    exact K0f hs hT again i hi n (k+1) m _ _ (by omega) (by omega) (by rw[List.length_set];exact hD)
   rw[decide_eq_false h4,Q0b,if_neg h4]
   exact K0f hs hT again i hi n (k+1) m _ _ (by omega) (by omega) hD
theorem X0e(T:List Token):∀ (n k:Nat),∀x∈hk T k n,0≤x∧x<((k+n:Nat):Int)
 | 0,k,x,h=>by cases h
 | n+1,k,x,h=>by
   rw[hk]at h
   split at h
   ·rcases List.mem_cons.1 h with rfl|h
    ·omega
    have:=X0e T n (k+1) x h
    omega
   have:=X0e T n (k+1) x h
   omega
theorem Z0n(hs:S.length≤1000000)(hT:T.length≤1000000):∀ (n i f m m':Nat) (D:List Str),i+n=T.length→f≤i→n<m→n<m'→D.length=T.length→(∀d∈D,d.length≤1000000)→
 ∃D',iter (Q7y T S) m ((i:Int),D,hk T f (i-f))=some D'∧iter (Q9a T S) m' ((f:Int),(i:Int),D)=some D'∧D'.length=T.length∧∀d∈D',d.length≤1000000
 | 0,i,f,m+1,m'+1,D,hi,hf,hm,hm',hD,hd=>by
   refine⟨D,?_,?_,hD,hd⟩
   ·show Q7y _ _ _ _=_
    rw[Q7y]
    try dsimp only
    rw[decide_eq_false (by omega),Q0b]
   show Q9a _ _ _ _=_
   rw[Q9a]
   try dsimp only
   rw[decide_eq_false (by omega),Q0b]
 | n+1,i,f,m+1,m'+1,D,hi,hf,hm,hm',hD,hd=>by
   have e1:iter (Q7y T S) (m+1) ((i:Int),D,hk T f (i-f))=Q7y T S (iter (Q7y T S) m) ((i:Int),D,hk T f (i-f)):=rfl
   have e2:iter (Q9a T S) (m'+1) ((f:Int),(i:Int),D)=Q9a T S (iter (Q9a T S) m') ((f:Int),(i:Int),D):=rfl
   rw[e1,e2,Q7y,Q9a]
   try dsimp only
   have hsn:=X0d T (i-f) f
   rw[show i-f+1=i+1-f by omega,show f+(i-f)=i by omega]at hsn
   have hkl:=X5z T (i-f) f
   rw[decide_eq_true (show(i:Int)<T.length by omega),Q0c,Q0c,Q7i (by omega) (by omega),Option.bind_some,Option.bind_some]
   by_cases h4:(tp T (i:Int)).kind_=4
   ·rw[if_pos h4]at hsn
    rw[decide_eq_true h4,Q0c,decide_eq_false (show ¬ (tp T (i:Int)).kind_=3 by rw[h4];decide),Bool.not_false,Q0c,Q0l (by simp only[List.length_cons,List.length_nil];omega),Option.bind_some,←hsn,wr1 (by omega) (by omega)]
    exact Z0n hs hT n (i+1) f m m' D (by omega) (by omega) (by omega) (by omega) hD hd
   rw[if_neg h4,List.append_nil]at hsn
   rw[decide_eq_false h4,Q0b]
   by_cases h3:(tp T (i:Int)).kind_=3
   ·rw[decide_eq_true h3,Q0c,Bool.not_true,Q0b]
    have p1:=V1q hs hT (iter (Q7y T S) m) (i:Int) (hk T f (i-f)) [] BIG (IntKind.wrap .i64 ((tp T (i:Int)).at_+1)) D (by unfold BIG;omega) hD (by rw[List.nil_append];omega) (fun k hk'=>by have:=X0e T (i-f) f k hk';omega)
    have p2:=K0f hs hT (iter (Q9a T S) m') i (by omega) (i-f) f BIG (IntKind.wrap .i64 ((tp T (i:Int)).at_+1)) D (by omega) (by unfold BIG;omega) hD
    rw[List.nil_append]at p1
    have p1':iter (Z2l (hk T f (i-f)) T S (iter (Q7y T S) m) (i:Int)) BIG (IntKind.wrap .i64 ((tp T (i:Int)).at_+1),0,D)=_:=p1
    rw[p1',p2,wr1 (by omega) (by omega)]
    have hz:([]:List Int)=hk T i (i+1-i):=by
     rw[show i+1-i=1 by omega,hk,if_neg h4,hk]
    rw[hz]
    exact Z0n hs hT n (i+1) i m m' _ (by omega) (by omega) (by omega) (by omega) (by rw[X0v];exact hD) (J0v hs T _ _ _ hd)
   rw[decide_eq_false h3,Q0b,Bool.not_false,Q0c,wr1 (by omega) (by omega),←hsn]
   exact Z0n hs hT n (i+1) f m m' D (by omega) (by omega) (by omega) (by omega) hD hd
theorem X9z(hs:S.length≤1000000)(hT:T.length≤1000000):∃D,F46 S T=some D∧F23 S T=some D∧D.length=T.length∧∀d∈D,d.length≤1000000:=by
 obtain⟨D,h1,h2,h3,h4⟩:=Z0n hs hT T.length 0 0 BIG BIG (List.replicate (Int.toNat (T.length:Int)) ([]:Str)) (by omega) (Nat.le_refl _) (by unfold BIG;omega) (by unfold BIG;omega) (by rw[List.length_replicate,Int.toNat_natCast]) (fun d hd=>by rw[(List.mem_replicate.1 hd).2];exact Nat.zero_le _)
 have hm:mkO 16 (T.length:Int)=some ():=by
  rw[mkO,if_pos ⟨by omega,by omega⟩]
 refine⟨D,?_,?_,h3,h4⟩
 ·rw[F46,hm,Option.bind_some]
  exact h1
 rw[F23,hm,Option.bind_some]
 exact h2
end
end Go.Abs.U48
namespace Go.Abs.U48
open Go Go.Proofs
theorem X3w{n:Nat}(h:n<64):Lib.decDigits n=numS n:=by
 rw[numS]
 split
 ·rw[Lib.decDigits_one (by omega)]
 rw[Lib.decDigits_two (by omega) (by omega)]
theorem Z5l{x:Str}(hl:x.length≤1000000)(h:F166 x=some true):∃n,n<64∧x=numS n:=by
 obtain⟨n,hn,e⟩:=Lx.F67_num hl h
 exact⟨n,hn,e.trans (X3w hn)⟩
theorem K1d{a w:Str}(ha:(93:UInt8)∉a)(hl:a.length≤1000000):F125 (91::(a++93::w)) true=((F166 (Lib.cut a [61]).1).bind fun r16=>
 (Q0e (((r16&&(Lib.cut a [61]).2.2)&&true)&&!decide ((Lib.cut a [61]).2.1=[])) (F166 (Lib.cut a [61]).2.1)).bind fun r19=>
 (bif (!r16||((Lib.cut a [61]).2.2&&(!true||(!decide ((Lib.cut a [61]).2.1=[])&&!r19))))then some 0 else some ((a.length+2:Nat):Int))):=by
 have h93:(93:Int).toNat.toUInt8=93:=by decide
 have hi:=Lx.indexByte_at 93 w (91::a) (by simp only[List.mem_cons,not_or];exact⟨by decide,ha⟩)
 have hs:Q0t (91::(a++93::w)) 1 ((91::a).length:Int)=some a:=Lx.sslice_part [91] a (93::w)
 unfold F125
 rw[Q0m,Option.bind_some,h93]
 rw[show(91::(a++93::w):Str)=(91::a)++93::w from rfl,hi,decide_eq_false (by omega),Q0b]
 rw[show((91::a)++93::w:Str)=91::(a++93::w) from rfl,hs,Option.bind_some,Z5y,if_pos (by omega),Option.bind_some]
 rw[Q0o (by omega) (by simp;omega)]
 have e:((91::a).length:Int)+1=((a.length+2:Nat):Int):=by simp;omega
 rw[e]
def BR(tl:Str):Prop:=(∃n,n<64∧tl=91::(numS n++[93]))∨(∃n,n<64∧tl=91::(numS n++[61,93]))∨∃n m,n<64∧m<64∧tl=91::(numS n++61::(numS m++[93]))
theorem V1o{r:Str}(hl:r.length≤1000000)(h:Lx.brk (91::r) true≠0):BR ((91::r).take (Lx.brk (91::r) true)):=by
 rcases Lx.firstOf 93 r with h1|⟨a,w,h1,rfl⟩
 ·exact absurd (by rw[Lx.brk,Lx.F51_free true h1];rfl) h
 have hla:a.length≤1000000:=by simp only[List.length_append]at hl;omega
 have hF:=K1d (w:=w) h1 hla
 have key:∃x y ok,Lib.cut a [61]=(x,y,ok)∧F166 x=some true∧(ok=false∨y=[]∨F166 y=some true)∧Lx.brk (91::(a++93::w)) true=a.length+2:=by
  obtain⟨hc1,hc2⟩:=Lx.cut_len a 61
  obtain⟨b1,e1⟩:=Lx.F67_tot (Lib.cut a [61]).1 (by omega)
  obtain⟨b2,e2⟩:=Lx.F67_tot (Lib.cut a [61]).2.1 (by omega)
  refine⟨(Lib.cut a [61]).1,(Lib.cut a [61]).2.1,(Lib.cut a [61]).2.2,rfl,?_⟩
  rw[e1,e2]
  rw[e1,e2,Option.bind_some]at hF
  rw[Lx.brk]at h ⊢
  rw[hF]at h ⊢
  revert h
  cases b1 with
  | false=>
    intro h
    exact absurd rfl h
  | true=>
  cases hok:(Lib.cut a [61]).2.2 with
  | false=>
    intro h
    exact⟨rfl,.inl rfl,rfl⟩
  | true=>
  by_cases hy:(Lib.cut a [61]).2.1=[]
  ·rw[hy,decide_eq_true rfl]
   intro h
   exact⟨rfl,.inr (.inl rfl),rfl⟩
  rw[decide_eq_false hy]
  cases b2 with
  | false=>
    intro h
    exact absurd rfl h
  | true=>
    intro h
    exact⟨rfl,.inr (.inr rfl),rfl⟩
 obtain⟨x,y,ok,hc,g1,g2,g3⟩:=key
 rw[g3]
 have ht:(91::(a++93::w):Str).take (a.length+2)=91::(a++[93]):=by
  rw[List.take_succ_cons,List.take_append,List.take_of_length_le (by omega),show a.length+1-a.length=1 by omega]
  rfl
 rw[ht]
 rcases Lx.firstOf 61 a with hf|⟨p,q,hf,rfl⟩
 ·rw[Lx.cut_free hf]at hc
  injection hc with hx hc
  injection hc with hy ho
  subst hx
  obtain⟨n,hn,e⟩:=Z5l hla g1
  exact .inl ⟨n,hn,by rw[e]⟩
 rw[Lx.cut_at q hf]at hc
 injection hc with hx hc
 injection hc with hy ho
 subst hx hy ho
 have hlp:p.length≤1000000∧q.length≤1000000:=by simp only[List.length_append,List.length_cons]at hla;omega
 obtain⟨n,hn,e⟩:=Z5l hlp.1 g1
 rcases g2 with g2|rfl|g2
 ·cases g2
 ·exact .inr (.inl ⟨n,hn,by rw[e];simp⟩)
 obtain⟨m,hm,e2⟩:=Z5l hlp.2 g2
 exact .inr (.inr ⟨n,m,hn,hm,by rw[e,e2];simp⟩)
theorem J7y{t s:Str}(hl:t.length≤1000000):∀ws:List Str,(∀w∈ws,w=[62,62]∨w=[62]∨w=[60]∨w=[124])→Lx.symB ws t=.ok s→c0 s=60∨c0 s=62→RD s
 | [],_,h,hc=>by
   simp only[Lx.symB,Except.ok.injEq]at h
   subst h
   exact absurd hc (by decide)
 | w::ws,hw,h,hc=>by
   rw[Lx.symB]at h
   cases hp:w.isPrefixOf t with
   | false=>
     rw[hp,Q0b]at h
     exact J7y hl ws (fun x hx=>hw x (.tail _ hx)) h hc
   | true=>
     obtain⟨u,hu⟩:=List.isPrefixOf_iff_prefix.1 hp
     subst hu
     rw[hp,Q0c,List.drop_left]at h
     by_cases h124:w=[124]
     ·subst h124
      exfalso
      revert h
      cases([91]:Str).isPrefixOf u with
      | false=>
        rw[Q0b]
        intro h
        injection h with h
        subst h
        exact absurd hc (by decide)
      | true=>
        rw[Q0c]
        intro h
        split at h
        ·cases h
        injection h with h
        subst h
        rw[List.take_append]at hc
        have:∀ (n:Nat) (m:Str),1≤n→c0 (List.take n ([124]:Str)++m)=124:=by
         intro n m hn
         rw[List.take_of_length_le (show([124]:Str).length≤n from hn)]
         rfl
        have h1:∀m,1≤([124]:Str).length+m:=fun m=>Nat.le_add_right 1 m
        rcases hc with hc|hc<;>exact absurd ((this _ _ (h1 _)).symm.trans hc) (by decide)
     have hw3:w=[60]∨w=[62]∨w=[62,62]:=by
      rcases hw w (.head _)with rfl|rfl|rfl|rfl
      ·exact .inr (.inr rfl)
      ·exact .inr (.inl rfl)
      ·exact .inl rfl
      exact absurd rfl h124
     rw[decide_eq_false h124,Bool.not_false]at h
     revert h
     cases hb:([91]:Str).isPrefixOf u with
     | false=>
       rw[Q0b]
       intro h
       injection h with h
       subst h
       exact⟨w,[],hw3,by simp,.inl rfl⟩
     | true=>
       rw[Q0c]
       intro h
       obtain⟨v,hv⟩:=List.isPrefixOf_iff_prefix.1 hb
       have hv':u=91::v:=hv.symm
       subst hv'
       split at h
       ·cases h
       rename_i h0
       injection h with h
       subst h
       have hlv:v.length≤1000000:=by simp only[List.length_append,List.length_cons]at hl;omega
       refine⟨w,(91::v).take (Lx.brk (91::v) true),hw3,?_,.inr (V1o hlv h0)⟩
       rw[List.take_length_add_append]
theorem J7z{t s:Str}(hl:t.length≤1000000):∀ws:List Str,(∀w∈ws,c0 w≠60∧c0 w≠62)→Lx.symA ws t=.ok s→c0 s=60∨c0 s=62→RD s
 | [],_,h,hc=>by
   cases t with
   | nil=>
     simp only[Lx.symA,Except.ok.injEq]at h
     subst h
     exact absurd hc (by decide)
   | cons c r=>
     rw[Lx.symA]at h
     cases hs:Lx.START.contains c with
     | false=>
       rw[hs,Q0b]at h
       exact J7y hl _ (fun w hw=>by simpa using hw) h hc
     | true=>
       rw[hs,Q0c]at h
       injection h with h
       subst h
       exfalso
       have:∀c:UInt8,Lx.START.contains c=true→¬ (c0 [c]=60∨c0 [c]=62):=by
        intro c hc
        simp only[Lx.START,List.contains_cons,List.contains_nil,Bool.or_false,Bool.or_eq_true,beq_iff_eq]at hc
        rcases hc with rfl|rfl|rfl|rfl|rfl|rfl|rfl|rfl|rfl|rfl|rfl|rfl<;>decide
       exact this c hs hc
 | w::ws,hw,h,hc=>by
   rw[Lx.symA]at h
   cases hp:w.isPrefixOf t with
   | false=>
     rw[hp,Q0b]at h
     exact J7z hl ws (fun x hx=>hw x (.tail _ hx)) h hc
   | true=>
     rw[hp,Q0c]at h
     injection h with h
     subst h
     have:=hw w (.head _)
     rcases hc with hc|hc
     ·exact absurd hc this.1
     exact absurd hc this.2
theorem K1p{t s:Str}(hl:t.length≤1000000)(h:Lx.sym t=.ok s)(hc:c0 s=60∨c0 s=62):RD s:=
 J7z hl _ (fun w hw=>by
  simp only[List.mem_cons,List.not_mem_nil,or_false]at hw
  rcases hw with rfl|rfl|rfl<;>decide) h hc
def okK(t:Token):Prop:=t.text_.length≤1000000∧t.quoted_.length≤1000000∧(t.kind_=2→t.text_≠[]∧(c0 t.text_=60∨c0 t.text_=62→RD t.text_))
theorem Q8g{l l':List Token}{u:Token}(h:Lx.push l u=.ok l')(hl:∀t∈l,okK t)(hu:okK u):∀t∈l',okK t:=by
 rw[(Lx.push_ok h).1]
 intro t ht
 rcases List.mem_append.1 ht with ht|ht
 ·exact hl t ht
 rw[List.mem_singleton.1 ht]
 exact hu
theorem X0f{l l':List Token}{u:Token}{tc:Bool}(h:Lx.hat l u tc=.ok l')(hl:∀t∈l,okK t)(hu:okK u):∀t∈l',okK t:=by
 rw[Lx.hat]at h
 cases hc:Lx.hats u tc with
 | false=>
   rw[hc,Q0b]at h
   exact Q8g h hl hu
 | true=>
   rw[hc,Q0c]at h
   cases hp:Lx.push l ⟨2,u.at_,[94],[]⟩with
   | error e=>rw[hp]at h;cases h
   | ok l1=>
     rw[hp]at h
     exact Q8g h (Q8g hp hl ⟨by show([94]:Str).length≤_;decide,by show([]:Str).length≤_;decide,fun _=>⟨by show([94]:Str)≠[];decide,fun hc=>absurd hc (by show ¬ (c0 [94]=60∨c0 [94]=62);decide)⟩⟩) hu
theorem X7v{p:Nat}{t:Str}{l l':List Token}{tc:Bool}{m:Nat}(ht:t.length≤1000000)(h:Lx.tok p t l tc=.ok (l',m))(hl:∀t∈l,okK t):∀t∈l',okK t:=by
 rw[Lx.tok]at h
 cases hs:Lx.sym t with
 | error e=>rw[hs]at h;cases h
 | ok s=>
   rw[hs]at h
   cases s with
   | nil=>
     dsimp only at h
     cases hw:Lx.wd t.length t with
     | error e=>rw[hw]at h;cases h
     | ok x=>
       obtain⟨x,q,n⟩:=x
       rw[hw]at h
       dsimp only at h
       obtain⟨g1,g2,g3⟩:=Lx.wd_len _ _ _ _ _ hw
       cases hh:Lx.hat l ⟨1,p,x,q⟩ tc with
       | error e=>rw[hh]at h;cases h
       | ok l1=>
         rw[hh]at h
         injection h with h
         injection h with h h2
         subst h
         exact X0f hh hl ⟨by show x.length≤_;omega,by show q.length≤_;omega,fun h=>absurd h (by show ¬ (1:Int)=2;decide)⟩
   | cons c w=>
     dsimp only at h
     have hlen:(c::w).length≤1000000:=Nat.le_trans (Lx.sym_pre hs).length_le ht
     cases hh:Lx.hat l ⟨2,p,c::w,[]⟩ tc with
     | error e=>rw[hh]at h;cases h
     | ok l1=>
       rw[hh]at h
       have ok1:=X0f hh hl ⟨hlen,by show([]:Str).length≤_;decide,fun _=>⟨by show c::w≠[];exact List.cons_ne_nil _ _,fun hc=>K1p ht hs hc⟩⟩
       dsimp only at h
       cases hd:(decide (c::w=[36])||decide (c::w=[36,35]))with
       | false=>
         rw[hd,Q0b]at h
         injection h with h
         injection h with h h2
         subst h
         exact ok1
       | true=>
         rw[hd,Q0c]at h
         cases hn:Lx.name (p+(c::w).length) (t.drop (c::w).length) l1 with
         | error e=>rw[hn]at h;cases h
         | ok l2=>
           rw[hn]at h
           injection h with h
           injection h with h h2
           subst h
           rw[Lx.name]at hn
           split at hn
           ·cases hn
           have:=Lx.nameN_le (t.drop (c::w).length)
           simp only[List.length_drop]at this
           exact Q8g hn ok1 ⟨by show(List.take _ _).length≤_;rw[List.length_take,List.length_drop];omega,by show(List.replicate _ _).length≤_;rw[List.length_replicate];omega,fun h=>absurd h (by show ¬ (1:Int)=2;decide)⟩
theorem X4f{p:Nat}{t:Str}{l l':List Token}{ns ns':List Str}{m:Nat}(ht:t.length≤1000000)(h:Lx.here p t l ns=.ok (l',ns',m))(hl:∀t∈l,okK t):∀t∈l',okK t:=by
 rw[Lx.here]at h
 cases hw:Lx.wd (t.drop (2+Lx.blankN (t.drop 2))).length (t.drop (2+Lx.blankN (t.drop 2)))with
 | error e=>rw[hw]at h;cases h
 | ok x=>
   obtain⟨x,q,n⟩:=x
   rw[hw]at h
   dsimp only at h
   obtain⟨g1,g2,g3⟩:=Lx.wd_len _ _ _ _ _ hw
   rw[List.length_drop]at g1
   cases hn:decide (n=0)with
   | true=>rw[hn,Q0c]at h;cases h
   | false=>
     rw[hn,Q0b]at h
     cases hp:Lx.push l ⟨4,p,x,q⟩with
     | error e=>rw[hp]at h;cases h
     | ok l1=>
       rw[hp]at h
       injection h with h
       injection h with h h2
       subst h
       exact Q8g hp hl ⟨by show x.length≤_;omega,by show q.length≤_;omega,fun h=>absurd h (by show ¬ (4:Int)=2;decide)⟩
theorem X9a{p:Nat}{t:Str}{l l':List Token}{ns:List Str}{m:Nat}(h:Lx.nls p t l ns=.ok (l',m))(hl:∀t∈l,okK t):∀t∈l',okK t:=by
 rw[Lx.nls]at h
 cases hp:Lx.push l ⟨3,p,[10],[]⟩with
 | error e=>rw[hp]at h;cases h
 | ok l1=>
   rw[hp]at h
   dsimp only at h
   cases hd:Lx.docs ns (t.drop 1)with
   | error e=>obtain⟨o,c⟩:=e;rw[hd]at h;cases h
   | ok n=>
     rw[hd]at h
     injection h with h
     injection h with h h2
     subst h
     exact Q8g hp hl ⟨by show([10]:Str).length≤_;decide,by show([]:Str).length≤_;decide,fun h=>absurd h (by show ¬ (3:Int)=2;decide)⟩
theorem Z4c:∀ (k p:Nat) (t:Str) (l:List Token) (ns:List Str) (l':List Token),t.length≤1000000→Lx.lex k p t l ns=.ok l'→(∀t∈l,okK t)→∀t∈l',okK t
 | 0,p,t,l,ns,l',ht,h,hl=>by cases h
 | k+1,p,t,l,ns,l',ht,h,hl=>by
   rw[Lx.lex]at h
   cases hd:t.drop (Lx.blankN t)with
   | nil=>
     rw[hd]at h
     dsimp only at h
     cases hn:decide (0<ns.length)with
     | true=>rw[hn,Q0c]at h;cases h
     | false=>
       rw[hn,Q0b]at h
       injection h with h
       subst h
       exact hl
   | cons c r=>
     rw[hd]at h
     dsimp only at h
     have hcr:(c::r).length≤1000000:=by
      rw[←hd,List.length_drop]
      omega
     have hdr:∀n,((c::r).drop n).length≤1000000:=fun n=>by
      rw[List.length_drop]
      omega
     cases h35:decide (c=35)with
     | true=>
       rw[h35,Q0c]at h
       exact Z4c k _ _ _ _ _ (hdr _) h hl
     | false=>
     rw[h35,Q0b]at h
     cases h10:decide (c=10)with
     | true=>
       rw[h10,Q0c]at h
       cases hn:Lx.nls (p+Lx.blankN t) (c::r) l ns with
       | error e=>rw[hn]at h;cases h
       | ok x=>
         obtain⟨l1,m⟩:=x
         rw[hn]at h
         exact Z4c k _ _ _ _ _ (hdr _) h (X9a hn hl)
     | false=>
     rw[h10,Q0b]at h
     cases h60:([60,60]:Str).isPrefixOf (c::r)with
     | true=>
       rw[h60,Q0c]at h
       cases hn:Lx.here (p+Lx.blankN t) (c::r) l ns with
       | error e=>rw[hn]at h;cases h
       | ok x=>
         obtain⟨l1,ns1,m⟩:=x
         rw[hn]at h
         exact Z4c k _ _ _ _ _ (hdr _) h (X4f hcr hn hl)
     | false=>
     rw[h60,Q0b]at h
     cases hn:Lx.tok (p+Lx.blankN t) (c::r) l (Lx.lastWord l&&decide (Lx.blankN t=0))with
     | error e=>rw[hn]at h;cases h
     | ok x=>
       obtain⟨l1,m⟩:=x
       rw[hn]at h
       exact Z4c k _ _ _ _ _ (hdr _) h (X7v hcr hn hl)
theorem K1z{T:List Token}{D:List Str}(hT:T.length≤1000000)(h:∀t∈T,okK t)(hD:D.length=T.length)(hd:∀d∈D,d.length≤1000000):OkR T D:=
 ⟨⟨hT,fun t ht=>⟨(h t ht).1,(h t ht).2.1⟩,fun t ht hk=>((h t ht).2.2 hk).1⟩,fun t ht hk hc=>((h t ht).2.2 hk).2 hc,hD,hd⟩
end Go.Abs.U48
namespace Go.Abs.U48
open Go Go.Proofs
mutual
def zW:Word→Word
 | ⟨k,t,q,ws,cs⟩=>⟨k,t,q,zWs ws,zCs cs⟩
def zWs:List Word→List Word
 | []=>[]
 | w::r=>zW w::zWs r
def zC:Cmd→Cmd
 | ⟨k,_,n,ws,rs,ks⟩=>⟨k,0,n,zWs ws,zRs rs,zCs ks⟩
def zCs:List Cmd→List Cmd
 | []=>[]
 | c::r=>zC c::zCs r
def zR:Redir→Redir
 | ⟨k,f,g,w,r⟩=>⟨k,f,g,zW w,r⟩
def zRs:List Redir→List Redir
 | []=>[]
 | r::s=>zR r::zRs s
end
theorem K1e(w:Word):zW w=⟨w.kind_,w.text_,w.quoted_,zWs w.words_,zCs w.cmd_⟩:=by obtain⟨_,_,_,ws,cs⟩:=w;rw[zW]
theorem K1g(c:Cmd):zC c=⟨c.kind_,0,c.name_,zWs c.words_,zRs c.redirs_,zCs c.kids_⟩:=by obtain⟨_,_,_,ws,rs,ks⟩:=c;rw[zC]
theorem K1f(r:Redir):zR r=⟨r.kind_,r.fd_,r.from_,zW r.word_,r.raw_⟩:=by obtain⟨_,_,_,w,_⟩:=r;rw[zR]
theorem Z3f:∀l,zWs l=l.map zW
 | []=>by rw[zWs];rfl
 | x::r=>by rw[zWs,Z3f r];rfl
theorem Z3g:∀l,zCs l=l.map zC
 | []=>by rw[zCs];rfl
 | x::r=>by rw[zCs,Z3g r];rfl
theorem Q9b:∀l,zRs l=l.map zR
 | []=>by rw[zRs];rfl
 | x::r=>by rw[zRs,Q9b r];rfl
theorem X7q{a b:List Word}(h:zWs a=zWs b):a.length=b.length:=by
 rw[Z3f,Z3f]at h
 simpa using congrArg List.length h
theorem X7s{a b:List Cmd}(h:zCs a=zCs b):a.length=b.length:=by
 rw[Z3g,Z3g]at h
 simpa using congrArg List.length h
theorem X7r{a b:List Redir}(h:zRs a=zRs b):a.length=b.length:=by
 rw[Q9b,Q9b]at h
 simpa using congrArg List.length h
theorem J9o{α β:Type}{f:α→β}{a b:List α}(h:a.map f=b.map f){i:Int}(h0:0≤i)(hi:i<a.length):∃x y,lidx a i=some x∧lidx b i=some y∧f x=f y∧x∈a:=by
 have hl:a.length=b.length:=by simpa using congrArg List.length h
 have h1:i.toNat<a.length:=by omega
 have h2:i.toNat<b.length:=by omega
 refine⟨a[i.toNat],b[i.toNat],?_,?_,?_,List.getElem_mem h1⟩
 ·rw[lidx,if_pos h0,List.getElem?_eq_getElem h1]
 ·rw[lidx,if_pos h0,List.getElem?_eq_getElem h2]
 have:=congrArg (fun l=>l[i.toNat]?) h
 simp only[List.getElem?_map,List.getElem?_eq_getElem h1,List.getElem?_eq_getElem h2,Option.map_some,Option.some.injEq]at this
 exact this
theorem J8z(w26:List Word→List Word→Option Bool)(again:Int→Option Bool)(u u':Cmd)(hz:zRs u.redirs_=zRs u'.redirs_)(hw:∀x y:Word,zW x=zW y→nW x≤nRs u.redirs_→w26 [x] [y]=some true)(hb:u.redirs_.length≤1000000)(i:Int):
 ∀ (k m:Nat) (j:Int),0≤j→(u.redirs_.length:Int)≤j+k→k<m→j≤2000000→iter (Z7k u u' w26 again i) m j=again (IntKind.wrap .i64 (i+1))
 | k,0,_,_,_,hm,_=>absurd hm (Nat.not_lt_zero _)
 | k,m+1,j,h0,h1,h2,h3=>by
   show Z7k u u' w26 again i (iter (Z7k u u' w26 again i) m) j=_
   rw[Z7k]
   by_cases hj:j<(u.redirs_.length:Int)
   ·rw[Q9b,Q9b]at hz
    obtain⟨x,y,e1,e2,e3,e4⟩:=J9o hz h0 hj
    rw[K1f,K1f]at e3
    injection e3 with g1 g2 g3 g4 g5
    have hn:=Z0e e4
    rw[Z2t]at hn
    rw[decide_eq_true hj,Q0c,e1,Option.bind_some,e2,Option.bind_some,g1,g2,g3,g5,hw _ _ g4 hn]
    simp only[decide_true,Bool.not_true,beq_self_eq_true,Bool.or_false,Bool.not_false,Q0f,Option.bind_some,Q0b]
    rw[Q0o (by omega) (by omega)]
    cases k with
    | zero=>omega
    | succ k=>
      rw[←Q9b,←Q9b]at hz
      exact J8z w26 again u u' hz hw hb i k m (j+1) (by omega) (by omega) (by omega) (by omega)
   rw[decide_eq_false hj,Q0b]
theorem J8s:∀n:Nat,(∀a b:List Word,zWs a=zWs b→nWs a<n→nWs a≤40000→K26 n a b=some true)∧(∀a b:List Cmd,zCs a=zCs b→nCs a<n→nCs a≤40000→K10 n a b=some true)
 | 0=>⟨fun _ _ _ h=>absurd h (Nat.not_lt_zero _),fun _ _ _ h=>absurd h (Nat.not_lt_zero _)⟩
 | n+1=>by
   obtain⟨iw,ic⟩:=J8s n
   refine⟨fun a b hz hn hb=>?_,fun a b hz hn hb=>?_⟩
   ·show F26 (K10 n) (K26 n) a b=_
    have hl:=X7q hz
    have hla:=Q6k a
    rw[F26,hl,decide_eq_true rfl]
    simp only[Bool.not_true,Q0b]
    rw[Z3f,Z3f]at hz
    have loop:∀ (k m:Nat) (j:Int),0≤j→(a.length:Int)≤j+k→k<m→j≤100000→iter (Z2n a b (K26 n) (K10 n)) m j=some true:=by
     intro k
     induction k with
     | zero=>
       intro m j h0 h1 h2 h3
       cases m with
       | zero=>omega
       | succ m=>
         show Z2n a b (K26 n) (K10 n) _ j=_
         rw[Z2n,decide_eq_false (by omega),Q0b]
     | succ k ih=>
       intro m j h0 h1 h2 h3
       cases m with
       | zero=>omega
       | succ m=>
         show Z2n a b (K26 n) (K10 n) (iter (Z2n a b (K26 n) (K10 n)) m) j=_
         rw[Z2n]
         by_cases hj:j<(a.length:Int)
         ·obtain⟨x,y,e1,e2,e3,e4⟩:=J9o hz h0 hj
          rw[K1e,K1e]at e3
          injection e3 with g1 g2 g3 g4 g5
          have hm:=Q5w e4
          rw[Q5x]at hm
          rw[decide_eq_true hj,Q0c,e1,Option.bind_some,e2,Option.bind_some,g1,g2,g3,iw _ _ g4 (by omega) (by omega),ic _ _ g5 (by omega) (by omega)]
          simp only[decide_true,Bool.not_true,Bool.or_false,Bool.not_false,Q0f,Option.bind_some,Q0b]
          rw[Q0o (by omega) (by omega)]
          exact ih m (j+1) (by omega) (by omega) (by omega) (by omega)
         rw[decide_eq_false hj,Q0b]
    exact loop a.length BIG 0 (by omega) (by omega) (by unfold BIG;omega) (by omega)
   show F10 (K10 n) (K26 n) a b=_
   have hl:=X7s hz
   have hla:=Q6l a
   rw[F10,hl,decide_eq_true rfl]
   simp only[Bool.not_true,Q0b]
   rw[Z3g,Z3g]at hz
   have loop:∀ (k m:Nat) (j:Int),0≤j→(a.length:Int)≤j+k→k<m→j≤100000→iter (Z2p a b (K26 n) (K10 n)) m j=some true:=by
    intro k
    induction k with
    | zero=>
      intro m j h0 h1 h2 h3
      cases m with
      | zero=>omega
      | succ m=>
        show Z2p a b (K26 n) (K10 n) _ j=_
        rw[Z2p,decide_eq_false (by omega),Q0b]
    | succ k ih=>
      intro m j h0 h1 h2 h3
      cases m with
      | zero=>omega
      | succ m=>
        show Z2p a b (K26 n) (K10 n) (iter (Z2p a b (K26 n) (K10 n)) m) j=_
        rw[Z2p]
        by_cases hj:j<(a.length:Int)
        ·obtain⟨x,y,e1,e2,e3,e4⟩:=J9o hz h0 hj
         rw[K1g,K1g]at e3
         injection e3 with g1 g2 g3 g4 g5 g6
         have hm:=Q7h e4
         rw[Q3d]at hm
         have hrl:=Q9f x.redirs_
         rw[decide_eq_true hj,Q0c,e1,Option.bind_some,e2,Option.bind_some,g1,g3,iw _ _ g4 (by omega) (by omega),ic _ _ g6 (by omega) (by omega),X7r g5]
         simp only[decide_true,Bool.not_true,Bool.or_false,Bool.not_false,Q0f,Option.bind_some,Q0b]
         rw[J8z (K26 n) _ x y g5 (fun p q hpq hnp=>iw [p] [q] (by rw[zWs,zWs,zWs,hpq];rw[zWs]) (by rw[nWs,nWs];omega) (by rw[nWs,nWs];omega)) (by omega) j x.redirs_.length BIG 0 (by omega) (by omega) (by unfold BIG;omega) (by omega)]
         rw[Q0o (by omega) (by omega)]
         exact ih m (j+1) (by omega) (by omega) (by omega) (by omega)
        rw[decide_eq_false hj,Q0b]
   exact loop a.length BIG 0 (by omega) (by omega) (by unfold BIG;omega) (by omega)
theorem Z8d{α:Type}{a:List α}{i:Int}(h0:0≤i)(hi:i<a.length):∃x,lidx a i=some x∧x∈a:=by
 have h1:i.toNat<a.length:=by omega
 exact⟨a[i.toNat],by rw[lidx,if_pos h0,List.getElem?_eq_getElem h1],List.getElem_mem h1⟩
theorem J9i(w27:List Word→List Word→Option Bool)(again:Int→Option Bool)(u:Cmd)(hw:∀x:Word,nW x≤nRs u.redirs_→w27 [x] [x]=some true)(hb:u.redirs_.length≤1000000)(i:Int):
 ∀ (k m:Nat) (j:Int),0≤j→(u.redirs_.length:Int)≤j+k→k<m→j≤2000000→iter (Z7j u u w27 again i) m j=again (IntKind.wrap .i64 (i+1))
 | k,0,_,_,_,hm,_=>absurd hm (Nat.not_lt_zero _)
 | k,m+1,j,h0,h1,h2,h3=>by
   show Z7j u u w27 again i (iter (Z7j u u w27 again i) m) j=_
   rw[Z7j]
   by_cases hj:j<(u.redirs_.length:Int)
   ·obtain⟨x,e1,e4⟩:=Z8d h0 hj
    have hn:=Z0e e4
    rw[Z2t]at hn
    rw[decide_eq_true hj,Q0c,e1,Option.bind_some,Option.bind_some,hw _ hn,Option.bind_some]
    simp only[Bool.not_true,Q0b]
    rw[Q0o (by omega) (by omega)]
    cases k with
    | zero=>omega
    | succ k=>exact J9i w27 again u hw hb i k m (j+1) (by omega) (by omega) (by omega) (by omega)
   rw[decide_eq_false hj,Q0b]
theorem J0e:∀n:Nat,(∀a:List Word,nWs a<n→nWs a≤40000→K27 n a a=some true)∧(∀a:List Cmd,nCs a<n→nCs a≤40000→K11 n a a=some true)
 | 0=>⟨fun _ h=>absurd h (Nat.not_lt_zero _),fun _ h=>absurd h (Nat.not_lt_zero _)⟩
 | n+1=>by
   obtain⟨iw,ic⟩:=J0e n
   refine⟨fun a hn hb=>?_,fun a hn hb=>?_⟩
   ·show F27 (K11 n) (K27 n) a a=_
    have hla:=Q6k a
    rw[F27]
    have loop:∀ (k m:Nat) (j:Int),0≤j→(a.length:Int)≤j+k→k<m→j≤100000→iter (Z2m a a (K27 n) (K11 n)) m j=some true:=by
     intro k
     induction k with
     | zero=>
       intro m j h0 h1 h2 h3
       cases m with
       | zero=>omega
       | succ m=>
         show Z2m a a (K27 n) (K11 n) _ j=_
         rw[Z2m,decide_eq_false (by omega),Q0b]
     | succ k ih=>
       intro m j h0 h1 h2 h3
       cases m with
       | zero=>omega
       | succ m=>
         show Z2m a a (K27 n) (K11 n) (iter (Z2m a a (K27 n) (K11 n)) m) j=_
         rw[Z2m]
         by_cases hj:j<(a.length:Int)
         ·obtain⟨x,e1,e4⟩:=Z8d h0 hj
          have hm:=Q5w e4
          rw[Q5x]at hm
          rw[decide_eq_true hj,Q0c,e1,Option.bind_some,Option.bind_some,iw _ (by omega) (by omega),Option.bind_some,Q0f,ic _ (by omega) (by omega),Option.bind_some]
          simp only[Bool.not_true,Bool.or_false,Q0b]
          rw[Q0o (by omega) (by omega)]
          exact ih m (j+1) (by omega) (by omega) (by omega) (by omega)
         rw[decide_eq_false hj,Q0b]
    exact loop a.length BIG 0 (by omega) (by omega) (by unfold BIG;omega) (by omega)
   show F11 (K11 n) (K27 n) a a=_
   have hla:=Q6l a
   rw[F11]
   have loop:∀ (k m:Nat) (j:Int),0≤j→(a.length:Int)≤j+k→k<m→j≤100000→iter (Z2o a a (K11 n) (K27 n)) m j=some true:=by
    intro k
    induction k with
    | zero=>
      intro m j h0 h1 h2 h3
      cases m with
      | zero=>omega
      | succ m=>
        show Z2o a a (K11 n) (K27 n) _ j=_
        rw[Z2o,decide_eq_false (by omega),Q0b]
    | succ k ih=>
      intro m j h0 h1 h2 h3
      cases m with
      | zero=>omega
      | succ m=>
        show Z2o a a (K11 n) (K27 n) (iter (Z2o a a (K11 n) (K27 n)) m) j=_
        rw[Z2o]
        by_cases hj:j<(a.length:Int)
        ·obtain⟨x,e1,e4⟩:=Z8d h0 hj
         have hm:=Q7h e4
         rw[Q3d]at hm
         have hrl:=Q9f x.redirs_
         rw[decide_eq_true hj,Q0c,e1,Option.bind_some,Option.bind_some,decide_eq_true rfl,Q0f,ic _ (by omega) (by omega),Option.bind_some,iw _ (by omega) (by omega)]
         simp only[Bool.not_true,Bool.or_false,Bool.not_false,Q0f,Option.bind_some,Q0b]
         rw[J9i (K27 n) _ x (fun p hnp=>iw [p] (by rw[nWs,nWs];omega) (by rw[nWs,nWs];omega)) (by omega) j x.redirs_.length BIG 0 (by omega) (by omega) (by unfold BIG;omega) (by omega)]
         rw[Q0o (by omega) (by omega)]
         exact ih m (j+1) (by omega) (by omega) (by omega) (by omega)
        rw[decide_eq_false hj,Q0b]
   exact loop a.length BIG 0 (by omega) (by omega) (by unfold BIG;omega) (by omega)
end Go.Abs.U48
namespace Go.Abs.U48
open Go Go.Proofs
theorem X3p{S:Str}{T:List Token}(hS:S.length≤1000000)(hT:T.length≤1024)(hk:∀t∈T,okK t):
 ∃D,F23 S T=some D∧((∃n l j,F20 S T=some ([],n,47)∧F24 (K142 BIG) [] S T D 0 0 0=some (l,j,47,n)) ∨
  ∃l j,F20 S T=some (l,0,0)∧F24 (K142 BIG) [] S T D 0 0 0=some (l,j,0,0)∧nCs l≤40000):=by
 obtain⟨D,d1,d2,d3,d4⟩:=X9z hS (show T.length≤1000000 by omega)
 have hr:=K1z (by omega) hk d3 d4
 obtain⟨hC,-⟩:=X9c (S:=S) hr (2 * T.length+2) (by omega) BIG (by unfold BIG;omega)
 have hc:=hC 0 (Int.le_refl _) (by omega)
 have hL:=J2i hr.ok hc (Int.le_refl _) (by simp only[bd];omega) (by simp only[bd];omega) (c:=false) (e:=[]) (.inr ⟨rfl,.inl rfl⟩) (i:=0) (Int.le_refl _) (by omega)
 refine⟨D,d2,?_⟩
 rw[F20,d1,Option.bind_some]
 rcases hL with⟨n,h1,a,j,h2,-,-⟩|⟨l,j,h1,g1,g2,g3,-,⟨h2,h3⟩|⟨h2,a,j',h3,-,-⟩⟩
 ·rw[h1]
  exact .inl ⟨n,a,j,rfl,h2⟩
 ·rw[h1]
  dsimp only
  rw[stpT,decide_eq_true rfl,Q0c,decide_eq_true_eq]at h2
  rw[decide_eq_false (by omega),Q0b]
  exact .inr ⟨l,j,rfl,h3,by omega⟩
 rw[h1]
 dsimp only
 rw[stpT,decide_eq_true rfl,Q0c,decide_eq_false_iff_not]at h2
 rw[decide_eq_true (by omega),Q0c,Q7x (by omega)]
 exact .inl ⟨_,a,j',rfl,h3⟩
theorem X8f(s:Str)(h:s.length≤4000):∃l p c,F8 s=some (l,p,c)∧F9 s=some (l,p,c)∧nCs l≤40000:=by
 have h5:=Lx.F5_eq s (by omega)
 have h6:=Lx.F6_eq s (by omega)
 cases hx:Lx.lex (s.length+1) 0 s [] []with
 | error e=>
   obtain⟨q,c⟩:=e
   rw[hx]at h5 h6
   obtain⟨e1,hc⟩:=h5
   obtain⟨e2,-⟩:=h6
   refine⟨[],q,c,?_,?_,Nat.zero_le _⟩
   ·rw[F8,e1,Option.bind_some]
    dsimp only
    rw[decide_eq_false hc,Bool.not_false,Q0c]
   rw[F9,e2,Option.bind_some]
   dsimp only
   rw[decide_eq_false hc,Bool.not_false,Q0c]
 | ok T=>
   have hT:=Lx.lex_len _ _ _ _ _ _ (Nat.zero_le _) hx
   have hk:=Z4c _ _ _ _ _ _ (by omega) hx (fun t ht=>by cases ht)
   rw[hx]at h5 h6
   have e1:F19 s=some (T,0,0):=h5
   have e2:F22 s=some (T,0,0):=h6
   obtain⟨D,hD,hp⟩:=X3p (S:=s) (by omega) hT hk
   rw[F8,F9,e1,e2,Option.bind_some,Option.bind_some]
   dsimp only
   rw[e00,Bool.not_true,Q0b,Q0b,hD,Option.bind_some]
   rcases hp with⟨n,l,j,g1,g2⟩|⟨l,j,g1,g2,hl⟩
   ·rw[g1,g2,Option.bind_some,Option.bind_some]
    dsimp only
    rw[e47,Bool.not_false,Q0c,Q0c]
    exact⟨[],n,47,rfl,rfl,Nat.zero_le _⟩
   rw[g1,g2,Option.bind_some,Option.bind_some]
   dsimp only
   rw[e00,Bool.not_true,Q0b,Q0b,V3q l hl,Option.bind_some,(J3t BIG).2 l (by unfold BIG;omega) hl,Option.bind_some,(Z9p BIG).2 l (by unfold BIG;omega) hl]
   by_cases h1:szCs l≤1024
   ·rw[decide_eq_true h1,decide_eq_false (show ¬ (1024:Int)<(szCs l:Int)by omega),Bool.not_false,Q0f,Option.bind_some]
    by_cases h2:dCs l≤32
    ·rw[decide_eq_true h2,decide_eq_false (show ¬ (32:Int)<(dCs l:Int)by omega)]
     exact⟨l,0,0,rfl,rfl,hl⟩
    rw[decide_eq_false h2,decide_eq_true (show(32:Int)<(dCs l:Int)by omega)]
    exact⟨[],0,4,rfl,rfl,Nat.zero_le _⟩
   rw[decide_eq_false h1,decide_eq_true (show(1024:Int)<(szCs l:Int)by omega)]
   exact⟨[],0,4,rfl,rfl,Nat.zero_le _⟩
theorem Z5r(s:Str):F3 s=some true:=by
 rw[F3]
 by_cases h:s.length≤4000
 ·obtain⟨l,p,c,e1,e2,hl⟩:=X8f s h
  rw[decide_eq_false (by omega),Q0b,e1,e2,Option.bind_some]
  dsimp only
  rw[Option.bind_some]
  dsimp only
  rw[decide_eq_true rfl,decide_eq_true rfl,Bool.and_self,Q0f,(J8s BIG).2 l l rfl (by unfold BIG;omega) hl,Option.bind_some,Bool.and_self,Q0f,(J0e BIG).2 l (by unfold BIG;omega) hl,Option.bind_some,Bool.and_self,Q0f,Z6t]
  rfl
 rw[decide_eq_true (by omega),Q0c,Z6t]
 rfl
end Go.Abs.U48
namespace Go.Abs.U48
open Go
theorem law3(s:Str)(w:s.length≤maxLen):F3 s=some true:=Z5r s
end Go.Abs.U48
namespace Go.Abs.U48
open Go Go.Proofs
section
variable (nm:Str)(w r n:Nat)
theorem r0:decide (0<r)=!decide (r=0):=by
 by_cases h:r=0
 ·rw[decide_eq_true h,decide_eq_false (by omega)];rfl
 rw[decide_eq_false h,decide_eq_true (by omega)];rfl
end
section
variable (c:Cmd)
end
end Go.Abs.U48
namespace Go.Abs.U48
open Go Go.Proofs
end Go.Abs.U48
