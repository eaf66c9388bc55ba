import Derived.Test.YtljahlbklgnfhaaGreatDoorA35
import Derived.Test.YtljahlbklgnfhaaGreatDoorD1
import Derived.Lib.IndexAny
import Derived.Test.YtljahlbklgnfhaaGreatDoorAK
import Derived.Test.YtljahlbklgnfhaaGreatDoorTY
import Derived.Test.YtljahlbklgnfhaaGreatDoorA43
set_option linter.unusedVariables false
set_option linter.unusedSimpArgs false
set_option linter.defProp false
namespace Go.Abs.U48
open Go Go.Proofs
mutual
def nW:Word→Nat
 | ⟨_,_,_,ws,cs⟩=>1+nWs ws+nCs cs
def nWs:List Word→Nat
 | []=>0
 | w::r=>nW w+nWs r
def nC:Cmd→Nat
 | ⟨_,_,_,ws,rs,ks⟩=>1+nWs ws+nCs ks+nRs rs
def nCs:List Cmd→Nat
 | []=>0
 | c::r=>nC c+nCs r
def nR:Redir→Nat
 | ⟨_,_,_,w,_⟩=>nW w
def nRs:List Redir→Nat
 | []=>0
 | r::s=>nR r+nRs s
end
theorem Q3y(w:Word):nW w=1+nWs w.words_+nCs w.cmd_:=by obtain⟨_,_,_,ws,cs⟩:=w;rw[nW]
theorem Q2c(c:Cmd):nC c=1+nWs c.words_+nCs c.kids_+nRs c.redirs_:=by obtain⟨_,_,_,ws,rs,ks⟩:=c;rw[nC]
theorem Q8m(r:Redir):nR r=nW r.word_:=by obtain⟨_,_,_,w,_⟩:=r;rw[nR]
mutual
def okW:Word→Prop
 | ⟨_,t,q,ws,cs⟩=>t.length≤maxLen∧q.length≤maxLen∧ws.length≤maxLen∧cs.length≤maxLen∧okWs ws∧okCs cs
def okWs:List Word→Prop
 | []=>True
 | w::r=>okW w∧okWs r
def okC:Cmd→Prop
 | ⟨_,_,nm,ws,rs,ks⟩=>nm.length≤maxLen∧ws.length≤maxLen∧rs.length≤maxLen∧ks.length≤maxLen∧okWs ws∧okRs rs∧okCs ks
def okCs:List Cmd→Prop
 | []=>True
 | c::r=>okC c∧okCs r
def okR:Redir→Prop
 | ⟨_,_,_,w,_⟩=>okW w
def okRs:List Redir→Prop
 | []=>True
 | r::s=>okR r∧okRs s
end
theorem K3b(w:Word):okW w=(w.text_.length≤maxLen∧w.quoted_.length≤maxLen∧w.words_.length≤maxLen∧w.cmd_.length≤maxLen∧okWs w.words_∧okCs w.cmd_):=by obtain⟨_,_,_,ws,cs⟩:=w;rw[okW]
theorem K3d(c:Cmd):okC c=(c.name_.length≤maxLen∧c.words_.length≤maxLen∧c.redirs_.length≤maxLen∧c.kids_.length≤maxLen∧okWs c.words_∧okRs c.redirs_∧okCs c.kids_):=by obtain⟨_,_,_,ws,rs,ks⟩:=c;rw[okC]
theorem K3c(r:Redir):okR r=okW r.word_:=by obtain⟨_,_,_,w,_⟩:=r;rw[okR]
mutual
def smW:Word→Prop
 | ⟨_,t,q,ws,cs⟩=>t.length≤2000∧q.length≤2000∧smWs ws∧smCs cs
def smWs:List Word→Prop
 | []=>True
 | w::r=>smW w∧smWs r
def smC:Cmd→Prop
 | ⟨_,_,nm,ws,rs,ks⟩=>nm.length≤2000∧rs.length≤2000∧smWs ws∧smRs rs∧smCs ks
def smCs:List Cmd→Prop
 | []=>True
 | c::r=>smC c∧smCs r
def smR:Redir→Prop
 | ⟨_,_,_,w,_⟩=>smW w
def smRs:List Redir→Prop
 | []=>True
 | r::s=>smR r∧smRs s
end
theorem Q4z(w:Word):smW w=(w.text_.length≤2000∧w.quoted_.length≤2000∧smWs w.words_∧smCs w.cmd_):=by obtain⟨_,_,_,ws,cs⟩:=w;rw[smW]
theorem Q4m(c:Cmd):smC c=(c.name_.length≤2000∧c.redirs_.length≤2000∧smWs c.words_∧smRs c.redirs_∧smCs c.kids_):=by obtain⟨_,_,_,ws,rs,ks⟩:=c;rw[smC]
theorem Z9p(r:Redir):smR r=smW r.word_:=by obtain⟨_,_,_,w,_⟩:=r;rw[smR]
theorem Q0e{α:Type}(x y:α):(bif true then x else y)=x:=rfl
theorem Q0c{α:Type}(x y:α):(bif false then x else y)=y:=rfl
def Cnt(left r:Int)(n:Nat)(sm:Prop):Prop:=(-1≤r∧r≤left)∧(0≤r→r+(n:Int)=left∧sm)
theorem X6q(l:List Word)(hl:l.length≤maxLen)(w62:List Word→Int→Option Int)(w28:List Cmd→Int→Option Int)(B:Int)(hB:B≤2000)
 (h62:∀ (x:List Word) (left:Int),-1≤left→left<B→okWs x→x.length≤maxLen→∃r,w62 x left=some r∧Cnt left r (nWs x) (smWs x))
 (h28:∀ (x:List Cmd) (left:Int),-1≤left→left<B→okCs x→x.length≤maxLen→∃r,w28 x left=some r∧Cnt left r (nCs x) (smCs x)):
 ∀ (n j:Nat) (left:Int),j≤l.length→l.length-j<n→left≤B→-1≤left→okWs (l.drop j)→∃r,iter (Z6x l w62 w28) n (left,(j:Int))=some r∧Cnt left r (nWs (l.drop j)) (smWs (l.drop j))
 | 0,j,left,_,h,_,_,_=>by omega
 | n+1,j,left,hj,hn,hlB,hlo,hok=>by
   unfold maxLen at hl
   show ∃r,Z6x l w62 w28 (iter (Z6x l w62 w28) n) (left,(j:Int))=some r∧_
   rw[Z6x]
   by_cases hc:j<l.length
   ·rw[Q0y hc,okWs,K3b]at hok
    obtain⟨⟨t1,t2,t3,t4,o1,o2⟩,hok⟩:=hok
    rw[Q0y hc,nWs,smWs,Q3y,Q4z]
    rw[decide_eq_true (p:=((j:Int)<(l.length:Int))) (by omega),Q0e,Q0r (n:=left-1) (by omega) (by omega),Q5n hc]
    by_cases h1:left-1<0
    ·refine⟨-1,?_,by omega,fun h=>by omega⟩
     rw[decide_eq_true (p:=(left-1<0)) h1]
     rfl
    rw[decide_eq_false (p:=(left-1<0)) h1]
    show ∃r,(bif ((false||decide (2000<(l[j].text_.length:Int)))||decide (2000<(l[j].quoted_.length:Int)))then some (-1)else _)=some r∧_
    by_cases h2:l[j].text_.length≤2000∧l[j].quoted_.length≤2000
    ·rw[decide_eq_false (p:=(2000<(l[j].text_.length:Int))) (by omega),decide_eq_false (p:=(2000<(l[j].quoted_.length:Int))) (by omega),Bool.or_self,Bool.or_self,Q0c,Option.bind_some]
     obtain⟨r1,e1,a1,b1⟩:=h62 l[j].words_ (left-1) (by omega) (by omega) o1 t3
     rw[e1,Option.bind_some]
     obtain⟨r2,e2,a2,b2⟩:=h28 l[j].cmd_ r1 (by omega) (by omega) o2 t4
     rw[e2,Option.bind_some]
     by_cases h3:r2<0
     ·rw[decide_eq_true h3,Q0e]
      exact⟨-1,rfl,by omega,fun h=>by omega⟩
     rw[decide_eq_false h3,Q0c,Q0r (by omega) (by omega)]
     obtain⟨c2,d2⟩:=b2 (by omega)
     obtain⟨c1,d1⟩:=b1 (by omega)
     obtain⟨r3,e3,a3,b3⟩:=X6q l (by unfold maxLen;omega) w62 w28 B hB h62 h28 n (j+1) r2 (by omega) (by omega) (by omega) (by omega) hok
     refine⟨r3,e3,by omega,fun h=>?_⟩
     obtain⟨c3,d3⟩:=b3 h
     exact⟨by omega,⟨h2.1,h2.2,d1,d2⟩,d3⟩
    have:((false||decide (2000<(l[j].text_.length:Int)))||decide (2000<(l[j].quoted_.length:Int)))=true:=by
     simp only[Bool.false_or,Bool.or_eq_true,decide_eq_true_eq]
     omega
    rw[this,Q0e]
    exact⟨-1,rfl,by omega,fun h=>by omega⟩
   rw[decide_eq_false (by omega),Q0c,List.drop_eq_nil_of_le (by omega),nWs,smWs]
   exact⟨left,rfl,⟨by omega,Int.le_refl _⟩,fun h=>⟨by omega,trivial⟩⟩
theorem X0n(u:Cmd)(hl:u.redirs_.length≤maxLen)(w62:List Word→Int→Option Int)(again7:Int×Int→Option Int)(i6:Int)(B:Int)(hB:B≤2000)
 (h62:∀ (x:List Word) (left:Int),-1≤left→left<B→okWs x→x.length≤maxLen→∃r,w62 x left=some r∧Cnt left r (nWs x) (smWs x)):
 ∀ (n j:Nat) (left:Int),j≤u.redirs_.length→u.redirs_.length-j<n→left<B→-1≤left→okRs (u.redirs_.drop j)→
  ∃r,iter (Z6y u w62 again7 i6) n (left,(j:Int))=(bif decide (r<0)then some (-1)else again7 (r,IntKind.wrap .i64 (i6+1)))∧Cnt left r (nRs (u.redirs_.drop j)) (smRs (u.redirs_.drop j))
 | 0,j,left,_,h,_,_,_=>by omega
 | n+1,j,left,hj,hn,hlB,hlo,hok=>by
   unfold maxLen at hl
   show ∃r,Z6y u w62 again7 i6 (iter (Z6y u w62 again7 i6) n) (left,(j:Int))=_∧_
   rw[Z6y]
   by_cases hc:j<u.redirs_.length
   ·rw[Q0y hc,okRs,K3c]at hok
    rw[Q0y hc,nRs,smRs,Q8m,Z9p]
    rw[decide_eq_true (p:=((j:Int)<(u.redirs_.length:Int))) (by omega),Q0e,Q5n hc,Option.bind_some]
    obtain⟨r1,e1,a1,b1⟩:=h62 [u.redirs_[j].word_] left hlo hlB ⟨hok.1,trivial⟩ (by unfold maxLen;simp)
    rw[e1,Option.bind_some,Q0r (by omega) (by omega)]
    obtain⟨r3,e3,a3,b3⟩:=X0n u (by unfold maxLen;omega) w62 again7 i6 B hB h62 n (j+1) r1 (by omega) (by omega) (by omega) (by omega) hok.2
    refine⟨r3,e3,by omega,fun h=>?_⟩
    obtain⟨c3,d3⟩:=b3 h
    obtain⟨c1,d1⟩:=b1 (by omega)
    rw[nWs,nWs]at c1
    rw[smWs]at d1
    exact⟨by omega,d1.1,d3⟩
   rw[decide_eq_false (p:=((j:Int)<(u.redirs_.length:Int))) (by omega),Q0c,List.drop_eq_nil_of_le (by omega),nRs,smRs]
   exact⟨left,rfl,⟨by omega,Int.le_refl _⟩,fun h=>⟨by omega,trivial⟩⟩
theorem X6r(l:List Cmd)(hl:l.length≤maxLen)(w62:List Word→Int→Option Int)(w28:List Cmd→Int→Option Int)(B:Int)(hB:B≤2000)
 (h62:∀ (x:List Word) (left:Int),-1≤left→left<B→okWs x→x.length≤maxLen→∃r,w62 x left=some r∧Cnt left r (nWs x) (smWs x))
 (h28:∀ (x:List Cmd) (left:Int),-1≤left→left<B→okCs x→x.length≤maxLen→∃r,w28 x left=some r∧Cnt left r (nCs x) (smCs x)):
 ∀ (n j:Nat) (left:Int),j≤l.length→l.length-j<n→left≤B→0≤left→okCs (l.drop j)→∃r,iter (Z5b l w62 w28) n (left,(j:Int))=some r∧Cnt left r (nCs (l.drop j)) (smCs (l.drop j))
 | 0,j,left,_,h,_,_,_=>by omega
 | n+1,j,left,hj,hn,hlB,hlo,hok=>by
   unfold maxLen at hl
   show ∃r,Z5b l w62 w28 (iter (Z5b l w62 w28) n) (left,(j:Int))=some r∧_
   rw[Z5b]
   by_cases hc:j<l.length
   ·rw[Q0y hc,okCs,K3d]at hok
    obtain⟨⟨t1,t2,t3,t4,o1,o2,o3⟩,hok⟩:=hok
    rw[Q0y hc,nCs,smCs,Q2c,Q4m]
    rw[decide_eq_true (p:=((j:Int)<(l.length:Int))) (by omega),Q0e,Q0r (n:=left-1) (by omega) (by omega),Q5n hc]
    by_cases h1:left-1<0
    ·refine⟨-1,?_,by omega,fun h=>by omega⟩
     rw[decide_eq_true (p:=(left-1<0)) h1]
     rfl
    rw[decide_eq_false (p:=(left-1<0)) h1]
    show ∃r,(bif ((false||decide (2000<(l[j].name_.length:Int)))||decide (left-1<(l[j].redirs_.length:Int)))then some (-1)else _)=some r∧_
    by_cases h2:l[j].name_.length≤2000∧(l[j].redirs_.length:Int)≤left-1
    ·rw[decide_eq_false (p:=(2000<(l[j].name_.length:Int))) (by omega),decide_eq_false (p:=(left-1<(l[j].redirs_.length:Int))) (by omega),Bool.or_self,Bool.or_self,Q0c,Option.bind_some]
     obtain⟨r1,e1,a1,b1⟩:=h62 l[j].words_ (left-1) (by omega) (by omega) o1 t2
     rw[e1,Option.bind_some]
     obtain⟨r2,e2,a2,b2⟩:=h28 l[j].kids_ r1 (by omega) (by omega) o3 t4
     rw[e2,Option.bind_some]
     obtain⟨r3,e3,a3,b3⟩:=X0n l[j] t3 w62 (iter (Z5b l w62 w28) n) (j:Int) B hB h62 BIG 0 r2 (Nat.zero_le _) (by unfold maxLen at t3;unfold BIG;omega) (by omega) (by omega) (by rw[List.drop_zero];exact o2)
     rw[show((0:Nat):Int)=0 from rfl]at e3
     rw[e3]
     rw[List.drop_zero]at b3
     by_cases h3:r3<0
     ·rw[decide_eq_true h3,Q0e]
      exact⟨-1,rfl,by omega,fun h=>by omega⟩
     rw[decide_eq_false h3,Q0c,Q0r (by omega) (by omega)]
     obtain⟨c3,d3⟩:=b3 (by omega)
     obtain⟨c2,d2⟩:=b2 (by omega)
     obtain⟨c1,d1⟩:=b1 (by omega)
     obtain⟨r4,e4,a4,b4⟩:=X6r l (by unfold maxLen;omega) w62 w28 B hB h62 h28 n (j+1) r3 (by omega) (by omega) (by omega) (by omega) hok
     refine⟨r4,e4,by omega,fun h=>?_⟩
     obtain⟨c4,d4⟩:=b4 h
     exact⟨by omega,⟨h2.1,by omega,d1,d3,d2⟩,d4⟩
    have:((false||decide (2000<(l[j].name_.length:Int)))||decide (left-1<(l[j].redirs_.length:Int)))=true:=by
     simp only[Bool.false_or,Bool.or_eq_true,decide_eq_true_eq]
     omega
    rw[this,Q0e]
    exact⟨-1,rfl,by omega,fun h=>by omega⟩
   rw[decide_eq_false (by omega),Q0c,List.drop_eq_nil_of_le (by omega),nCs,smCs]
   exact⟨left,rfl,⟨by omega,Int.le_refl _⟩,fun h=>⟨by omega,trivial⟩⟩
theorem J1f:∀n:Nat,
 (∀ (x:List Word) (left:Int),-1≤left→left+2≤n→left≤2000→okWs x→x.length≤maxLen→∃r,K62 n x left=some r∧Cnt left r (nWs x) (smWs x))∧
 (∀ (x:List Cmd) (left:Int),-1≤left→left+2≤n→left≤2000→okCs x→x.length≤maxLen→∃r,K28 n x left=some r∧Cnt left r (nCs x) (smCs x))
 | 0=>⟨fun x left h1 h2=>by omega,fun x left h1 h2=>by omega⟩
 | n+1=>by
   obtain⟨ih1,ih2⟩:=J1f n
   refine⟨fun x left h1 h2 h3 ho hl=>?_,fun x left h1 h2 h3 ho hl=>?_⟩
   ·show ∃r,F62 (K28 n) (K62 n) x left=some r∧_
    rw[F62]
    have:=X6q x hl (K62 n) (K28 n) left h3 (fun y l2 g1 g2 go gl=>ih1 y l2 g1 (by omega) (by omega) go gl) (fun y l2 g1 g2 go gl=>ih2 y l2 g1 (by omega) (by omega) go gl) BIG 0 left (Nat.zero_le _) (by unfold maxLen at hl;unfold BIG;omega) (Int.le_refl _) h1 (by rw[List.drop_zero];exact ho)
    rw[List.drop_zero]at this
    exact this
   show ∃r,F28 (K28 n) (K62 n) x left=some r∧_
   rw[F28]
   by_cases h0:left<0
   ·rw[decide_eq_true h0,Q0e]
    exact⟨-1,rfl,⟨by omega,by omega⟩,fun h=>by omega⟩
   rw[decide_eq_false h0,Q0c]
   have:=X6r x hl (K62 n) (K28 n) left h3 (fun y l2 g1 g2 go gl=>ih1 y l2 g1 (by omega) (by omega) go gl) (fun y l2 g1 g2 go gl=>ih2 y l2 g1 (by omega) (by omega) go gl) BIG 0 left (Nat.zero_le _) (by unfold maxLen at hl;unfold BIG;omega) (Int.le_refl _) (by omega) (by rw[List.drop_zero];exact ho)
   rw[List.drop_zero]at this
   exact this
theorem K2c(l:List Cmd)(hok:okCs l)(hl:l.length≤maxLen):∃b,F12 l=some b∧(b=true→nCs l≤2000∧smCs l):=by
 obtain⟨r,e,⟨h1,h2⟩,h3⟩:=(J1f BIG).2 l 2000 (by omega) (by unfold BIG;omega) (by omega) hok hl
 rw[F12,e,Option.bind_some]
 refine⟨_,rfl,fun h=>?_⟩
 have h0:0≤r:=of_decide_eq_true h
 obtain⟨c,d⟩:=h3 h0
 exact⟨by omega,d⟩
end Go.Abs.U48
namespace Go.Abs.U48
open Go Go.Proofs
def sumL{α:Type}(f:α→Nat):List α→Nat
 | []=>0
 | x::r=>f x+sumL f r
def maxL{α:Type}(f:α→Nat):List α→Nat
 | []=>0
 | x::r=>max (f x) (maxL f r)
theorem Z2w{α R:Type}(f:α→Nat)(w:α→Option Int)(fin:Int→Option R):∀ (l:List α) (i:Int) (s:Nat),(∀x∈l,w x=some (f x:Int))→s+sumL f l≤1000000→
 Q3n (fun u _ k (s:Int)=>(w u).bind fun r=>k (IntKind.wrap .i64 (s+r))) fin l i (s:Int)=fin ((s+sumL f l:Nat):Int)
 | [],i,s,_,_=>by rw[Q3n,sumL];rfl
 | x::r,i,s,hw,hb=>by
   rw[sumL]at hb
   rw[Q3n,hw x (by simp),Option.bind_some,Q0r (by omega) (by omega),show(s:Int)+(f x:Int)=((s+f x:Nat):Int)by omega,Z2w f w fin r (i+1) (s+f x) (fun y hy=>hw y (by simp[hy])) (by omega),sumL]
   congr 2
   omega
theorem Q9p(a b:Nat):imax (a:Int) (b:Int)=((max a b:Nat):Int):=by
 unfold imax
 split<;>omega
theorem Q6g{α R:Type}(f:α→Nat)(w:α→Option Int)(fin:Int→Option R):∀ (l:List α) (i:Int) (s:Nat),(∀x∈l,w x=some (f x:Int))→
 Q3n (fun u _ k (s:Int)=>(w u).bind fun r=>k (imax s r)) fin l i (s:Int)=fin ((max s (maxL f l):Nat):Int)
 | [],i,s,_=>by rw[Q3n,maxL,Nat.max_zero]
 | x::r,i,s,hw=>by
   rw[Q3n,hw x (by simp),Option.bind_some,Q9p,Q6g f w fin r (i+1) (max s (f x)) (fun y hy=>hw y (by simp[hy])),maxL,Nat.max_assoc]
theorem Q5e{α:Type}(p:α→Bool)(w:α→Option Bool):∀ (l:List α) (i:Nat),(∀x∈l,w x=some (p x))→
 ∃r:Int,Q6h (fun u i k=>(w u).bind fun r=>bif r then some i else k) (some (-1)) l (i:Int)=some r∧decide (0≤r)=l.any p
 | [],i,_=>⟨-1,rfl,rfl⟩
 | x::r,i,hw=>by
   rw[Q6h,hw x (by simp),Option.bind_some,List.any_cons]
   cases p x with
   | true=>exact⟨i,rfl,by rw[decide_eq_true (by omega)];rfl⟩
   | false=>exact Q5e p w r (i+1) (fun y hy=>hw y (by simp[hy]))
theorem Q9k{α:Type}(p:α→Bool)(w:α→Option Bool)(fin:Bool):∀ (l:List α) (i:Int),(∀x∈l,w x=some (p x))→
 Q6h (fun u _ k=>(w u).bind fun r=>bif !r then some false else k) (some fin) l i=some (l.all p&&fin)
 | [],i,_=>by rw[Q6h];rfl
 | x::r,i,hw=>by
   rw[Q6h,hw x (by simp),Option.bind_some,List.all_cons]
   cases p x with
   | true=>rw[Bool.not_true,Q0c,Q9k p w fin r (i+1) (fun y hy=>hw y (by simp[hy])),Bool.true_and]
   | false=>rfl
def hasW(r:Redir):Bool:=!decide (r.kind_=5)&&!decide (r.kind_=6)
mutual
def szW:Word→Nat
 | ⟨_,_,_,ws,cs⟩=>1+szWs ws+szCs cs
def szWs:List Word→Nat
 | []=>0
 | w::r=>szW w+szWs r
def szC:Cmd→Nat
 | ⟨_,_,_,ws,rs,ks⟩=>1+rs.length+szCs ks+szWs ws+szRs rs
def szCs:List Cmd→Nat
 | []=>0
 | c::r=>szC c+szCs r
def szR:Redir→Nat
 | ⟨k,_,_,w,_⟩=>bif !decide (k=5)&&!decide (k=6)then szW w else 0
def szRs:List Redir→Nat
 | []=>0
 | r::s=>szR r+szRs s
end
theorem X6h(w:Word):szW w=1+szWs w.words_+szCs w.cmd_:=by obtain⟨_,_,_,ws,cs⟩:=w;rw[szW]
theorem J9f(c:Cmd):szC c=1+c.redirs_.length+szCs c.kids_+szWs c.words_+szRs c.redirs_:=by obtain⟨_,_,_,ws,rs,ks⟩:=c;rw[szC]
theorem X6i(r:Redir):szR r=bif hasW r then szW r.word_ else 0:=by obtain⟨_,_,_,w,_⟩:=r;rw[szR,hasW]
theorem Q9c:∀l,szWs l=sumL szW l
 | []=>by rw[szWs];rfl
 | x::r=>by rw[szWs,Q9c r];rfl
theorem Z2o:∀l,szCs l=sumL szC l
 | []=>by rw[szCs];rfl
 | x::r=>by rw[szCs,Z2o r];rfl
theorem Z7l:∀l,szRs l=sumL szR l
 | []=>by rw[szRs];rfl
 | x::r=>by rw[szRs,Z7l r];rfl
mutual
theorem X6g:∀w:Word,szW w+3≤4 * nW w
 | ⟨_,_,_,ws,cs⟩=>by
   have:=Z7k ws
   have:=Q8i cs
   rw[szW,nW]
   omega
theorem Z7k:∀l:List Word,szWs l≤4 * nWs l
 | []=>by rw[szWs];omega
 | w::r=>by
   have:=X6g w
   have:=Z7k r
   rw[szWs,nWs]
   omega
theorem K2o:∀c:Cmd,szC c+3≤4 * nC c
 | ⟨_,_,_,ws,rs,ks⟩=>by
   have:=Z7k ws
   have:=Q8i ks
   have:=J9e rs
   rw[szC,nC]
   omega
theorem Q8i:∀l:List Cmd,szCs l≤4 * nCs l
 | []=>by rw[szCs];omega
 | c::r=>by
   have:=K2o c
   have:=Q8i r
   rw[szCs,nCs]
   omega
theorem K2n:∀r:Redir,szR r+1≤4 * nR r
 | ⟨k,_,_,w,_⟩=>by
   have:=X6g w
   rw[szR,nR]
   cases(!decide (k=5)&&!decide (k=6))
   ·show 0+1≤_
    omega
   show szW w+1≤_
   omega
theorem J9e:∀l:List Redir,szRs l+l.length≤4 * nRs l
 | []=>by rw[szRs];simp
 | r::s=>by
   have:=K2n r
   have:=J9e s
   rw[szRs,nRs,List.length_cons]
   omega
end
theorem Q2b:∀l:List Word,l.length≤nWs l
 | []=>by rw[nWs];simp
 | w::r=>by
   have:=Q2b r
   rw[nWs,Q3y,List.length_cons]
   omega
theorem Q1e:∀l:List Cmd,l.length≤nCs l
 | []=>by rw[nCs];simp
 | w::r=>by
   have:=Q1e r
   rw[nCs,Q2c,List.length_cons]
   omega
theorem Q6e:∀l:List Redir,l.length≤nRs l
 | []=>by rw[nRs];simp
 | w::r=>by
   have:=Q6e r
   rw[nRs,Q8m,Q3y,List.length_cons]
   omega
theorem Q1f:∀ {l:List Word} {w:Word},w∈l→nW w≤nWs l
 | x::r,w,h=>by
   rw[nWs]
   rcases List.mem_cons.1 h with rfl|h
   ·omega
   have:=Q1f h
   omega
theorem Q0l:∀ {l:List Cmd} {w:Cmd},w∈l→nC w≤nCs l
 | x::r,w,h=>by
   rw[nCs]
   rcases List.mem_cons.1 h with rfl|h
   ·omega
   have:=Q0l h
   omega
theorem Q6x:∀ {l:List Redir} {w:Redir},w∈l→nR w≤nRs l
 | x::r,w,h=>by
   rw[nRs]
   rcases List.mem_cons.1 h with rfl|h
   ·omega
   have:=Q6x h
   omega
theorem J9g{l:List Word}:sumL szW l≤4 * nWs l:=by rw[←Q9c];exact Z7k l
theorem J9h{l:List Cmd}:sumL szC l≤4 * nCs l:=by rw[←Z2o];exact Q8i l
theorem w15r{R:Type}(w31:Word→Option Int)(again5:Int×Int→Option R)(i4:Int):∀ (l:List Redir) (i:Int) (s:Nat),(∀r∈l,w31 r.word_=some (szW r.word_:Int))→s+sumL szR l≤1000000→
 Q3n (fun(u:Redir) _ k (s:Int)=>(F32 u).bind fun r36=>bif r36 then(w31 u.word_).bind fun r40=>k (IntKind.wrap .i64 (s+r40))else k s) (fun s=>again5 (s,i4)) l i (s:Int)=again5 (((s+sumL szR l:Nat):Int),i4)
 | [],i,s,_,_=>rfl
 | x::r,i,s,hw,hb=>by
   rw[sumL]at hb
   have ih:=fun t ht=>w15r w31 again5 i4 r (i+1) t (fun y hy=>hw y (by simp[hy])) ht
   have hx:=hw x (by simp)
   have hR:=X6i x
   rw[Q3n,F32,Option.bind_some]
   rw[show(!decide (x.kind_=5)&&!decide (x.kind_=6))=hasW x from rfl]
   cases hh:hasW x with
   | true=>
     rw[hh,Q0e]at hR
     rw[Q0e,hx,Option.bind_some,Q0r (by omega) (by omega),show(s:Int)+(szW x.word_:Int)=((s+szW x.word_:Nat):Int)by omega,ih _ (by omega),sumL,hR,Nat.add_assoc]
   | false=>
     rw[hh,Q0c]at hR
     rw[Q0c,ih _ (by omega),sumL,hR,Nat.zero_add]
theorem J9p:∀n:Nat,(∀w:Word,nW w<n→nW w≤2000→K31 n w=some (szW w:Int))∧(∀l:List Cmd,nCs l<n→nCs l≤2000→K15 n l=some (szCs l:Int))
 | 0=>⟨fun _ h=>by omega,fun _ h=>by omega⟩
 | n+1=>by
   obtain⟨ihW,ihC⟩:=J9p n
   refine⟨fun w hn hb=>?_,fun l hn hb=>?_⟩
   ·show F31 (K15 n) (K31 n) w=_
    have hnW:=Q3y w
    have hl:=Q2b w.words_
    have hs:=J9g (l:=w.words_)
    have hs2:=Q8i w.cmd_
    rw[F31,ihC w.cmd_ (by omega) (by omega),Option.bind_some,Q0r (by omega) (by omega),show(1:Int)+(szCs w.cmd_:Int)=((1+szCs w.cmd_:Nat):Int)by omega]
    rw[Q1n (body:=X2v w (K31 n)) w.words_ (fun u _ k (s:Int)=>(K31 n u).bind fun r=>k (IntKind.wrap .i64 (s+r))) (fun s=>some s) (fun _ _ _=>rfl) (by omega)]
    rw[Z2w szW (K31 n) _ w.words_ 0 (1+szCs w.cmd_) (fun x hx=>ihW x (by have:=Q1f hx;omega) (by have:=Q1f hx;omega)) (by omega),X6h,Q9c]
    congr 2
    omega
   show F15 (K15 n) (K31 n) l=_
   have hl:=Q1e l
   have hs:=J9h (l:=l)
   rw[F15]
   have body:∀u∈l,∀ (again5:Int×Int→Option Int) (i4:Int) (s:Nat),s+szC u≤1000000→((K15 n u.kids_).bind fun r12=>iter (J6x u (K31 n) again5 i4) BIG (IntKind.wrap .i64 ((s:Int)+(IntKind.wrap .i64 ((IntKind.wrap .i64 (1+(u.redirs_.length:Int)))+r12))),0))=again5 (((s+szC u:Nat):Int),IntKind.wrap .i64 (i4+1)):=by
    intro u hu again5 i4 s hsb
    have h1:=Q0l hu
    have h2:=Q2c u
    have h3:=J9f u
    have h4:=Q2b u.words_
    have h5:=Q6e u.redirs_
    have h6:=Q8i u.kids_
    have h7:=Z7l u.redirs_
    have h8:=Q9c u.words_
    rw[ihC u.kids_ (by omega) (by omega),Option.bind_some,Q0r (n:=1+(u.redirs_.length:Int)) (by omega) (by omega),Q0r (n:=1+(u.redirs_.length:Int)+(szCs u.kids_:Int)) (by omega) (by omega),Q0r (by omega) (by omega),
     show(s:Int)+(1+(u.redirs_.length:Int)+(szCs u.kids_:Int))=((s+(1+u.redirs_.length+szCs u.kids_):Nat):Int)by omega]
    rw[Q1n (body:=J6x u (K31 n) again5 i4) u.words_ (fun v _ k (s:Int)=>(K31 n v).bind fun r=>k (IntKind.wrap .i64 (s+r))) (fun s=>iter (J1y u (K31 n) again5 i4) BIG (s,0)) (fun _ _ _=>rfl) (by omega)]
    rw[Z2w szW (K31 n) _ u.words_ 0 _ (fun x hx=>ihW x (by have:=Q1f hx;omega) (by have:=Q1f hx;omega)) (by omega)]
    rw[Q1n (body:=J1y u (K31 n) again5 i4) u.redirs_ (fun(v:Redir) _ k (s:Int)=>(F32 v).bind fun r36=>bif r36 then(K31 n v.word_).bind fun r40=>k (IntKind.wrap .i64 (s+r40))else k s) (fun s=>again5 (s,IntKind.wrap .i64 (i4+1))) (fun again i s=>by rw[J1y]) (by omega)]
    rw[w15r (K31 n) again5 _ u.redirs_ 0 _ (fun r hr=>ihW r.word_ (by have:=Q6x hr;have:=Q8m r;omega) (by have:=Q6x hr;have:=Q8m r;omega)) (by omega)]
    congr 3
    omega
   have main:∀ (m j:Nat) (s:Nat),j≤l.length→l.length-j<m→s+sumL szC (l.drop j)≤1000000→iter (Z7c l (K15 n) (K31 n)) m ((s:Int),(j:Int))=some ((s+sumL szC (l.drop j):Nat):Int):=by
    intro m
    induction m with
    | zero=>intro j s hj h;omega
    | succ m ih=>
      intro j s hj hm hsb
      show Z7c l (K15 n) (K31 n) (iter (Z7c l (K15 n) (K31 n)) m) ((s:Int),(j:Int))=_
      rw[Z7c]
      by_cases hc:j<l.length
      ·rw[Q0y hc,sumL]at hsb
       rw[decide_eq_true (by omega),Q0e,Q5n hc,Option.bind_some,body _ (List.getElem_mem hc) _ _ s (by omega),Q0r (by omega) (by omega)]
       have:=ih (j+1) (s+szC l[j]) (by omega) (by omega) (by omega)
       rw[Q0y hc,sumL,←Nat.add_assoc,←this]
       rfl
      rw[decide_eq_false (by omega),Q0c,List.drop_eq_nil_of_le (by omega)]
      rfl
   have:=main BIG 0 0 (Nat.zero_le _) (by unfold BIG;omega) (by rw[List.drop_zero];omega)
   rw[List.drop_zero,Nat.zero_add,←Z2o]at this
   exact this
theorem J0s{α R:Type}(f g:α→Nat)(w v:α→Option Int)(fin:Int→Option R):∀ (l:List α) (i:Int) (s:Nat),(∀x∈l,w x=some (f x:Int)∧v x=some (g x:Int))→s+sumL (fun x=>f x+g x) l≤1000000→
 Q3n (fun u _ k (s:Int)=>(w u).bind fun r=>(v u).bind fun q=>k (IntKind.wrap .i64 (IntKind.wrap .i64 (s+r)+q))) fin l i (s:Int)=fin ((s+sumL (fun x=>f x+g x) l:Nat):Int)
 | [],i,s,_,_=>by rw[Q3n,sumL];rfl
 | x::r,i,s,hw,hb=>by
   rw[sumL]at hb
   rw[Q3n,(hw x (by simp)).1,Option.bind_some,(hw x (by simp)).2,Option.bind_some,Q0r (n:=(s:Int)+(f x:Int)) (by omega) (by omega),Q0r (by omega) (by omega),show(s:Int)+(f x:Int)+(g x:Int)=((s+(f x+g x):Nat):Int)by omega,J0s f g w v fin r (i+1) _ (fun y hy=>hw y (by simp[hy])) (by omega),sumL]
   congr 2
   omega
theorem J6u(d:Redir):F34 d=some (bif hasW d then[d.word_]else[]):=by
 rw[F34,hasW]
 cases decide (d.kind_=5)<;>cases decide (d.kind_=6)<;>rfl
theorem V5b(r:Redir):szWs (bif hasW r then[r.word_]else[])=szR r:=by
 rw[X6i]
 cases hasW r
 ·rw[Q0c,Q0c,szWs]
 rw[Q0e,Q0e,szWs,szWs,Nat.add_zero]
theorem nR_t(r:Redir):nWs (bif hasW r then[r.word_]else[])≤nR r:=by
 rw[Q8m]
 cases hasW r
 ·rw[Q0c,nWs];omega
 rw[Q0e,nWs,nWs];omega
theorem J4r{α:Type}(f:α→Nat)(h:α→Nat)(e:∀x,f x=1+h x):∀l:List α,sumL f l=l.length+sumL h l
 | []=>rfl
 | x::r=>by rw[sumL,sumL,J4r f h e r,e,List.length_cons];omega
theorem J4u:∀n:Nat,(∀l:List Word,nWs l<n→nWs l≤2000→K33 n l=some (szWs l:Int))∧(∀l:List Cmd,nCs l<n→nCs l≤2000→K16 n l=some (szCs l:Int))
 | 0=>⟨fun _ h=>by omega,fun _ h=>by omega⟩
 | n+1=>by
   obtain⟨ihW,ihC⟩:=J4u n
   refine⟨fun l hn hb=>?_,fun l hn hb=>?_⟩
   ·show F33 (K16 n) (K33 n) l=_
    have hl:=Q2b l
    have hs:=J9g (l:=l)
    have he:=J4r szW (fun w=>szWs w.words_+szCs w.cmd_) (fun w=>by rw[X6h];omega) l
    rw[F33,Q1n (body:=X2u l (K33 n) (K16 n)) l (fun u _ k (s:Int)=>(K33 n u.words_).bind fun r=>(K16 n u.cmd_).bind fun q=>k (IntKind.wrap .i64 (IntKind.wrap .i64 (s+r)+q))) (fun s=>some s) (fun _ _ _=>rfl) (by omega)]
    rw[J0s (fun w=>szWs w.words_) (fun w=>szCs w.cmd_) (fun u=>K33 n u.words_) (fun u=>K16 n u.cmd_) _ l 0 l.length (fun x hx=>?_) (by omega),Q9c]
    ·congr 2
     omega
    have h1:=Q1f hx
    have h2:=Q3y x
    exact⟨ihW _ (by omega) (by omega),ihC _ (by omega) (by omega)⟩
   show F16 (K16 n) (K33 n) l=_
   have hl:=Q1e l
   have hs:=J9h (l:=l)
   rw[F16]
   have body:∀u∈l,∀ (again5:Int×Int→Option Int) (i4:Int) (s:Nat),s+szC u≤1000000→((K33 n u.words_).bind fun r12=>(K16 n u.kids_).bind fun r15=>iter (J6w u (K33 n) again5 i4) BIG (IntKind.wrap .i64 ((IntKind.wrap .i64 ((IntKind.wrap .i64 ((s:Int)+r12))+r15))+(u.redirs_.length:Int)),0))=again5 (((s+(szC u-1):Nat):Int),IntKind.wrap .i64 (i4+1)):=by
    intro u hu again5 i4 s hsb
    have h1:=Q0l hu
    have h2:=Q2c u
    have h3:=J9f u
    have h5:=Q6e u.redirs_
    have h6:=Q8i u.kids_
    have h7:=Z7l u.redirs_
    rw[ihW u.words_ (by omega) (by omega),Option.bind_some,ihC u.kids_ (by omega) (by omega),Option.bind_some,Q0r (n:=(s:Int)+(szWs u.words_:Int)) (by omega) (by omega),Q0r (n:=(s:Int)+(szWs u.words_:Int)+(szCs u.kids_:Int)) (by omega) (by omega),Q0r (by omega) (by omega),
     show(s:Int)+(szWs u.words_:Int)+(szCs u.kids_:Int)+(u.redirs_.length:Int)=((s+szWs u.words_+szCs u.kids_+u.redirs_.length:Nat):Int)by omega]
    rw[Q1n (body:=J6w u (K33 n) again5 i4) u.redirs_ (fun(v:Redir) _ k (s:Int)=>(F34 v).bind fun r27=>(K33 n r27).bind fun r=>k (IntKind.wrap .i64 (s+r))) (fun s=>again5 (s,IntKind.wrap .i64 (i4+1))) (fun _ _ _=>rfl) (by omega)]
    have e:(fun(v:Redir) (_:Int) (k:Int→Option Int) (s:Int)=>(F34 v).bind fun r27=>(K33 n r27).bind fun r=>k (IntKind.wrap .i64 (s+r)))=(fun(v:Redir) (_:Int) (k:Int→Option Int) (s:Int)=>((F34 v).bind (K33 n)).bind fun r=>k (IntKind.wrap .i64 (s+r))):=by
     funext v i k s
     rw[J6u]
     rfl
    rw[e,Z2w szR (fun v=>(F34 v).bind (K33 n)) _ u.redirs_ 0 _ (fun x hx=>?_) (by omega)]
    ·congr 3
     omega
    have h8:=Q6x hx
    have h9:=nR_t x
    rw[J6u,Option.bind_some,ihW _ (by omega) (by omega),V5b]
   have main:∀ (m j:Nat) (s:Nat),j≤l.length→l.length-j<m→s+sumL szC (l.drop j)≤1000000→iter (Z7b l (K33 n) (K16 n)) m ((s:Int),(j:Int))=some ((s+(sumL szC (l.drop j)-(l.length-j)):Nat):Int)∧l.length-j≤sumL szC (l.drop j):=by
    intro m
    induction m with
    | zero=>intro j s hj h;omega
    | succ m ih=>
      intro j s hj hm hsb
      show Z7b l (K33 n) (K16 n) (iter (Z7b l (K33 n) (K16 n)) m) ((s:Int),(j:Int))=_∧_
      rw[Z7b]
      by_cases hc:j<l.length
      ·rw[Q0y hc,sumL]at hsb
       rw[decide_eq_true (by omega),Q0e,Q5n hc,Option.bind_some,body _ (List.getElem_mem hc) _ _ s (by omega),Q0r (by omega) (by omega)]
       obtain⟨e1,e2⟩:=ih (j+1) (s+(szC l[j]-1)) (by omega) (by omega) (by omega)
       have h1:=J9f l[j]
       rw[Q0y hc,sumL]
       refine⟨?_,by omega⟩
       rw[show((j:Int)+1)=((j+1:Nat):Int)by omega,e1]
       congr 2
       omega
      rw[decide_eq_false (by omega),Q0c,List.drop_eq_nil_of_le (by omega)]
      refine⟨?_,by omega⟩
      rw[sumL]
      congr 2
      omega
   obtain⟨e1,e2⟩:=main BIG 0 l.length (Nat.zero_le _) (by unfold BIG;omega) (by rw[List.drop_zero];omega)
   rw[List.drop_zero]at e1 e2
   rw[show((0:Nat):Int)=0 from rfl]at e1
   rw[e1,Z2o]
   congr 2
   omega
mutual
def dW:Word→Nat
 | ⟨_,_,_,ws,cs⟩=>max (dWs ws) (dCs cs)+1
def dWs:List Word→Nat
 | []=>0
 | w::r=>max (dW w) (dWs r)
def dC:Cmd→Nat
 | ⟨_,_,_,ws,rs,ks⟩=>max (max (dCs ks) (dWs ws)) (dRs rs)+1
def dCs:List Cmd→Nat
 | []=>0
 | c::r=>max (dC c) (dCs r)
def dR:Redir→Nat
 | ⟨k,_,_,w,_⟩=>bif !decide (k=5)&&!decide (k=6)then dW w else 0
def dRs:List Redir→Nat
 | []=>0
 | r::s=>max (dR r) (dRs s)
end
theorem V3f(w:Word):dW w=max (dWs w.words_) (dCs w.cmd_)+1:=by obtain⟨_,_,_,ws,cs⟩:=w;rw[dW]
theorem V3h(c:Cmd):dC c=max (max (dCs c.kids_) (dWs c.words_)) (dRs c.redirs_)+1:=by obtain⟨_,_,_,ws,rs,ks⟩:=c;rw[dC]
theorem V3g(r:Redir):dR r=bif hasW r then dW r.word_ else 0:=by obtain⟨_,_,_,w,_⟩:=r;rw[dR,hasW]
theorem Z8h:∀l,dWs l=maxL dW l
 | []=>by rw[dWs];rfl
 | x::r=>by rw[dWs,Z8h r];rfl
theorem Z4p:∀l,dCs l=maxL dC l
 | []=>by rw[dCs];rfl
 | x::r=>by rw[dCs,Z4p r];rfl
theorem J3g:∀l,dRs l=maxL dR l
 | []=>by rw[dRs];rfl
 | x::r=>by rw[dRs,J3g r];rfl
mutual
theorem X5d:∀w:Word,dW w≤nW w
 | ⟨_,_,_,ws,cs⟩=>by
   have:=X1q ws
   have:=X1r cs
   rw[dW,nW]
   omega
theorem X1q:∀l:List Word,dWs l≤nWs l
 | []=>by rw[dWs];omega
 | w::r=>by
   have:=X5d w
   have:=X1q r
   rw[dWs,nWs]
   omega
theorem K0m:∀c:Cmd,dC c≤nC c
 | ⟨_,_,_,ws,rs,ks⟩=>by
   have:=X1q ws
   have:=X1r ks
   have:=X7h rs
   rw[dC,nC]
   omega
theorem X1r:∀l:List Cmd,dCs l≤nCs l
 | []=>by rw[dCs];omega
 | c::r=>by
   have:=K0m c
   have:=X1r r
   rw[dCs,nCs]
   omega
theorem Y0e:∀r:Redir,dR r≤nR r
 | ⟨k,_,_,w,_⟩=>by
   have:=X5d w
   rw[dR,nR]
   cases(!decide (k=5)&&!decide (k=6))
   ·exact Nat.zero_le _
   exact this
theorem X7h:∀l:List Redir,dRs l≤nRs l
 | []=>by rw[dRs];omega
 | r::s=>by
   have:=Y0e r
   have:=X7h s
   rw[dRs,nRs]
   omega
end
theorem w51r{R:Type}(w86:Word→Option Int)(fin:Int→Option R):∀ (l:List Redir) (i:Int) (s:Nat),(∀r∈l,w86 r.word_=some (dW r.word_:Int))→
 Q3n (fun(u:Redir) _ k (s:Int)=>(F32 u).bind fun r36=>bif r36 then(w86 u.word_).bind fun r40=>k (imax s r40)else k s) fin l i (s:Int)=fin ((max s (maxL dR l):Nat):Int)
 | [],i,s,_=>by rw[Q3n,maxL,Nat.max_zero]
 | x::r,i,s,hw=>by
   have ih:=fun t=>w51r w86 fin r (i+1) t (fun y hy=>hw y (by simp[hy]))
   have hx:=hw x (by simp)
   have hR:=V3g x
   rw[Q3n,F32,Option.bind_some,maxL]
   rw[show(!decide (x.kind_=5)&&!decide (x.kind_=6))=hasW x from rfl]
   cases hh:hasW x with
   | true=>
     rw[hh,Q0e]at hR
     rw[Q0e,hx,Option.bind_some,Q9p,ih,hR,Nat.max_assoc]
   | false=>
     rw[hh,Q0c]at hR
     rw[Q0c,ih,hR,Nat.zero_max]
theorem J5y:∀n:Nat,(∀w:Word,nW w<n→nW w≤2000→K86 n w=some (dW w:Int))∧(∀c:Cmd,nC c<n→nC c≤2000→K51 n c=some (dC c:Int))
 | 0=>⟨fun _ h=>by omega,fun _ h=>by omega⟩
 | n+1=>by
   obtain⟨ihW,ihC⟩:=J5y n
   refine⟨fun w hn hb=>?_,fun c hn hb=>?_⟩
   ·show F86 (K51 n) (K86 n) w=_
    have h1:=Q3y w
    have h2:=Q2b w.words_
    have h3:=Q1e w.cmd_
    have h4:=X5d w
    rw[F86,Q1n (body:=X2p w (K86 n) (K51 n)) w.words_ (fun v _ k (s:Int)=>(K86 n v).bind fun r=>k (imax s r)) (fun s=>iter (J6l w (K51 n)) BIG (s,0)) (fun _ _ _=>rfl) (by omega)]
    rw[show(0:Int)=((0:Nat):Int) from rfl,Q6g dW (K86 n) _ w.words_ _ 0 (fun x hx=>ihW x (by have:=Q1f hx;omega) (by have:=Q1f hx;omega))]
    rw[show((0:Nat):Int)=0 from rfl,Q1n (body:=J6l w (K51 n)) w.cmd_ (fun v _ k (s:Int)=>(K51 n v).bind fun r=>k (imax s r)) (fun s=>some (IntKind.wrap .i64 (s+1))) (fun _ _ _=>rfl) (by omega)]
    rw[Q6g dC (K51 n) _ w.cmd_ _ _ (fun x hx=>ihC x (by have:=Q0l hx;omega) (by have:=Q0l hx;omega))]
    have h5:=V3f w
    rw[Z8h,Z4p]at h5
    rw[Q0r (by omega) (by omega)]
    congr 1
    omega
   show F51 (K51 n) (K86 n) c=_
   have h1:=Q2c c
   have h2:=Q2b c.words_
   have h3:=Q1e c.kids_
   have h6:=Q6e c.redirs_
   have h4:=K0m c
   rw[F51,Q1n (body:=X2t c (K51 n) (K86 n)) c.kids_ (fun v _ k (s:Int)=>(K51 n v).bind fun r=>k (imax s r)) (fun s=>iter (J6p c (K86 n)) BIG (s,0)) (fun _ _ _=>rfl) (by omega)]
   rw[show(0:Int)=((0:Nat):Int) from rfl,Q6g dC (K51 n) _ c.kids_ _ 0 (fun x hx=>ihC x (by have:=Q0l hx;omega) (by have:=Q0l hx;omega))]
   rw[show((0:Nat):Int)=0 from rfl,Q1n (body:=J6p c (K86 n)) c.words_ (fun v _ k (s:Int)=>(K86 n v).bind fun r=>k (imax s r)) (fun s=>iter (J1s c (K86 n)) BIG (s,0)) (fun _ _ _=>rfl) (by omega)]
   rw[Q6g dW (K86 n) _ c.words_ _ _ (fun x hx=>ihW x (by have:=Q1f hx;omega) (by have:=Q1f hx;omega))]
   rw[Q1n (body:=J1s c (K86 n)) c.redirs_ (fun(v:Redir) _ k (s:Int)=>(F32 v).bind fun r36=>bif r36 then(K86 n v.word_).bind fun r40=>k (imax s r40)else k s) (fun s=>some (IntKind.wrap .i64 (s+1))) (fun again i s=>by rw[J1s]) (by omega)]
   rw[w51r (K86 n) _ c.redirs_ _ _ (fun r hr=>ihW r.word_ (by have:=Q6x hr;have:=Q8m r;omega) (by have:=Q6x hr;have:=Q8m r;omega))]
   have h5:=V3h c
   rw[Z8h,Z4p,J3g]at h5
   rw[Q0r (by omega) (by omega)]
   congr 1
   omega
theorem dR_t(r:Redir):dWs (bif hasW r then[r.word_]else[])=dR r:=by
 rw[V3g]
 cases hasW r
 ·rw[Q0c,Q0c,dWs]
 rw[Q0e,Q0e,dWs,dWs,Nat.max_zero]
theorem Z9x:∀n:Nat,(∀l:List Word,nWs l<n→nWs l≤2000→K61 n l=some (dWs l:Int))∧(∀l:List Cmd,nCs l<n→nCs l≤2000→K25 n l=some (dCs l:Int))
 | 0=>⟨fun _ h=>by omega,fun _ h=>by omega⟩
 | n+1=>by
   obtain⟨ihW,ihC⟩:=Z9x n
   refine⟨fun l hn hb=>?_,fun l hn hb=>?_⟩
   ·show F61 (K25 n) (K61 n) l=_
    have hl:=Q2b l
    rw[F61,Q1n (body:=X2s l (K61 n) (K25 n)) l (fun u _ k (s:Int)=>(K61 n u.words_).bind fun r=>(K25 n u.cmd_).bind fun q=>k (imax s (IntKind.wrap .i64 (1+(imax r q))))) (fun s=>some s) (fun _ _ _=>rfl) (by omega)]
    have e:(fun(u:Word) (_:Int) (k:Int→Option Int) (s:Int)=>(K61 n u.words_).bind fun r=>(K25 n u.cmd_).bind fun q=>k (imax s (IntKind.wrap .i64 (1+(imax r q)))))=(fun(u:Word) (_:Int) (k:Int→Option Int) (s:Int)=>((K61 n u.words_).bind fun r=>(K25 n u.cmd_).bind fun q=>some (IntKind.wrap .i64 (1+(imax r q)))).bind fun r=>k (imax s r)):=by
     funext u i k s
     rw[Option.bind_assoc]
     congr 1
     funext r
     rw[Option.bind_assoc]
     rfl
    rw[e,show(0:Int)=((0:Nat):Int) from rfl,Q6g dW _ _ l _ 0 (fun x hx=>?_),Nat.zero_max,Z8h]
    have h1:=Q1f hx
    have h2:=Q3y x
    have h3:=X5d x
    have h4:=V3f x
    rw[ihW _ (by omega) (by omega),Option.bind_some,ihC _ (by omega) (by omega),Option.bind_some,Q9p,Q0r (by omega) (by omega)]
    congr 1
    omega
   show F25 (K25 n) (K61 n) l=_
   have hl:=Q1e l
   rw[F25]
   have body:∀u∈l,∀ (again5:Int×Int→Option Int) (i4:Int) (s:Nat),((K61 n u.words_).bind fun r12=>(K25 n u.kids_).bind fun r15=>iter (J6v u (K61 n) again5 (s:Int) i4) BIG (imax r12 r15,0))=again5 (((max s (dC u):Nat):Int),IntKind.wrap .i64 (i4+1)):=by
    intro u hu again5 i4 s
    have h1:=Q0l hu
    have h2:=Q2c u
    have h3:=V3h u
    have h5:=Q6e u.redirs_
    have h6:=K0m u
    rw[ihW u.words_ (by omega) (by omega),Option.bind_some,ihC u.kids_ (by omega) (by omega),Option.bind_some,Q9p]
    rw[Q1n (body:=J6v u (K61 n) again5 (s:Int) i4) u.redirs_ (fun(v:Redir) _ k (s:Int)=>(F34 v).bind fun r27=>(K61 n r27).bind fun r=>k (imax s r)) (fun d=>again5 (imax (s:Int) (IntKind.wrap .i64 (1+d)),IntKind.wrap .i64 (i4+1))) (fun _ _ _=>rfl) (by omega)]
    have e:(fun(v:Redir) (_:Int) (k:Int→Option Int) (s:Int)=>(F34 v).bind fun r27=>(K61 n r27).bind fun r=>k (imax s r))=(fun(v:Redir) (_:Int) (k:Int→Option Int) (s:Int)=>((F34 v).bind (K61 n)).bind fun r=>k (imax s r)):=by
     funext v i k s
     rw[J6u]
     rfl
    rw[e,Q6g dR (fun v=>(F34 v).bind (K61 n)) _ u.redirs_ 0 _ (fun x hx=>?_)]
    ·rw[J3g]at h3
     rw[Q0r (by omega) (by omega),show(1:Int)+((max (max (dWs u.words_) (dCs u.kids_)) (maxL dR u.redirs_):Nat):Int)=((dC u:Nat):Int)by omega,Q9p]
    have h8:=Q6x hx
    have h9:=nR_t x
    rw[J6u,Option.bind_some,ihW _ (by omega) (by omega),dR_t]
   have main:∀ (m j:Nat) (s:Nat),j≤l.length→l.length-j<m→iter (Z6z l (K61 n) (K25 n)) m ((s:Int),(j:Int))=some ((max s (maxL dC (l.drop j)):Nat):Int):=by
    intro m
    induction m with
    | zero=>intro j s hj h;omega
    | succ m ih=>
      intro j s hj hm
      show Z6z l (K61 n) (K25 n) (iter (Z6z l (K61 n) (K25 n)) m) ((s:Int),(j:Int))=_
      rw[Z6z]
      by_cases hc:j<l.length
      ·rw[decide_eq_true (by omega),Q0e,Q5n hc,Option.bind_some,body _ (List.getElem_mem hc) _ _ s,Q0r (by omega) (by omega)]
       have e1:=ih (j+1) (max s (dC l[j])) (by omega) (by omega)
       rw[Q0y hc,maxL]
       rw[show((j:Int)+1)=((j+1:Nat):Int)by omega,e1,Nat.max_assoc]
      rw[decide_eq_false (by omega),Q0c,List.drop_eq_nil_of_le (by omega),maxL,Nat.max_zero]
   have e1:=main BIG 0 0 (Nat.zero_le _) (by unfold BIG;omega)
   rw[List.drop_zero,Nat.zero_max,←Z4p]at e1
   exact e1
theorem X0m{α:Type}(f:α→Nat)(b:Nat):∀l:List α,decide (maxL f l≤b)=!(l.any fun x=>decide (b<f x))
 | []=>by rw[maxL];simp
 | x::r=>by
   rw[maxL,List.any_cons,Bool.not_or,←X0m f b r]
   by_cases h1:b<f x
   ·rw[decide_eq_true h1,decide_eq_false (by omega)];rfl
   rw[decide_eq_false h1]
   show _=(true&&_)
   rw[Bool.true_and]
   congr 1
   exact propext ⟨fun h=>by omega,fun h=>by omega⟩
theorem V4s(l:List Cmd)(hb:nCs l≤2000):F21 l=some (decide (szCs l≤1024)&&decide (dCs l≤32)):=by
 have hl:=Q1e l
 rw[F21,(J9p BIG).2 l (by unfold BIG;omega) hb,Option.bind_some]
 by_cases h1:szCs l≤1024
 ·rw[decide_eq_true (p:=((szCs l:Int)≤1024)) (by omega),Q0e,decide_eq_true h1,Bool.true_and,F49,F85]
  rw[Q1t (body:=X2q l) l (fun u i k=>(F50 u).bind fun r=>bif r then some i else k) (some (-1)) (fun _ _=>rfl) (by omega)]
  obtain⟨r,e1,e2⟩:=Q5e (fun c=>decide (32<dC c)) F50 l 0 (fun x hx=>by
   have h2:=Q0l hx
   rw[F50,(J5y BIG).2 x (by unfold BIG;omega) (by omega),Option.bind_some]
   congr 1
   exact decide_eq_decide.2 (by omega))
  rw[show((0:Nat):Int)=0 from rfl]at e1
  rw[e1,Option.bind_some,Option.bind_some,e2,Z4p,X0m]
 rw[decide_eq_false (p:=((szCs l:Int)≤1024)) (by omega),Q0c,decide_eq_false h1,Bool.false_and]
end Go.Abs.U48
namespace Go.Abs.U48
open Go Go.Proofs
def isnc(c:Int):Bool:=((((decide (97≤c)&&decide (c≤122))||(decide (65≤c)&&decide (c≤90)))||(decide (48≤c)&&decide (c≤57)))||decide (c=95))||decide (c=42)
def Q2z(s:Str):Bool:=(s.map B).all isnc&&!decide (s=[])
theorem J4d(s:Str)(hl:s.length≤9223372036854775807):F172 s=some (Q2z s):=by
 rw[F172,Q8n (body:=J4e s) s (fun c _ k=>(some (isnc c)).bind fun r=>bif !r then some false else k) (some (!decide (s=[]))) (fun _ _=>rfl) hl]
 exact Q9k isnc (fun c=>some (isnc c)) _ (s.map B) 0 (fun _ _=>rfl)
theorem X4j(c:Int):(((((decide (c<97)||decide (122<c))&&(decide (c<65)||decide (90<c)))&&(decide (c<48)||decide (57<c)))&&!decide (c=95))&&!decide (c=42))=!isnc c:=by
 have h:∀a b:Int,decide (a<b)=!decide (b≤a):=fun a b=>by
  by_cases h:a<b
  ·rw[decide_eq_true h,decide_eq_false (by omega)];rfl
  rw[decide_eq_false h,decide_eq_true (by omega)];rfl
 rw[isnc,h c 97,h 122 c,h c 65,h 90 c,h c 48,h 57 c]
 simp only[Bool.not_or,Bool.not_and]
theorem X3f(s:Str)(hl:s.length≤9223372036854775807):F144 s=some (Q2z s):=by
 rw[F144,Q8n (body:=Z9h s) s (fun c _ k=>(some (isnc c)).bind fun r=>bif !r then some false else k) (some (!decide (s=[]))) (fun again i=>by
  rw[Z9h]
  simp only[X4j]
  rfl) hl]
 exact Q9k isnc (fun c=>some (isnc c)) _ (s.map B) 0 (fun _ _=>rfl)
def Q6f(q:Str):Bool:=q.contains 49
theorem K1v(q:Str)(hl:q.length≤9223372036854775807):F171 q=some (Q6f q):=by
 rw[F171,Q8n (body:=J4f q) q (fun c _ k=>bif decide (c=49)then some true else k) (some false) (fun _ _=>rfl) hl]
 have:∀ (q:Str) (i:Int),Q6h (fun(c:Int) _ k=>bif decide (c=49)then some true else k) (some false) (q.map B) i=some (Q6f q):=by
  intro q
  induction q with
  | nil=>intro i;rfl
  | cons c r ih=>
    intro i
    rw[List.map_cons,Q6h,Q6f,List.contains_cons]
    have hb:=Q5o c 49
    rw[show decide (B c=49)=decide (c=49) from hb]
    by_cases h:c=49
    ·subst h;rfl
    rw[decide_eq_false h,Q0c,ih,Q6f]
    have:((49:UInt8)==c)=false:=by rw[beq_eq_false_iff_ne];exact fun e=>h e.symm
    rw[this,Bool.false_or]
 exact this q 0
theorem X1b(q:Str)(c:UInt8):decide (Lib.indexByte q c<0)=!q.contains c:=by
 rw[Lib.contains_iff_indexByte]
 by_cases h:Lib.indexByte q c<0
 ·rw[decide_eq_true h,decide_eq_false (by omega)];rfl
 rw[decide_eq_false h,decide_eq_true (by omega)];rfl
theorem Q8h(q:Str):L_IndexByte q 49=some (Lib.indexByte q 49):=rfl
def keyB(s:Str):Bool:=((((((decide (s=[105,102])||decide (s=[119,104,105,108,101]))||decide (s=[102,111,114]))||decide (s=[115,119,105,116,99,104]))||decide (s=[99,97,115,101]))||decide (s=[102,110]))||decide (s=[126]))
theorem K1q(s:Str):F187 s=some (keyB s):=rfl
theorem contains_cons(b:UInt8)(l sub:Str):Lib.contains (b::l) sub=(sub.isPrefixOf (b::l)||Lib.contains l sub):=by
 unfold Lib.contains
 cases h0:sub.isPrefixOf (b::l)with
 | true=>
   have:Lib.index (b::l) sub=0:=by unfold Lib.index;rw[if_pos h0]
   rw[this];rfl
 | false=>
   rw[Bool.false_or]
   rcases Lib.index_spec l sub with⟨h1,_⟩|⟨i,h1,_⟩
   ·have:Lib.index (b::l) sub=-1:=by unfold Lib.index;rw[h0,h1];rfl
    rw[this,h1]
   have:Lib.index (b::l) sub=i+1:=by
    unfold Lib.index
    rw[h0,h1]
    have:((i:Int)==-1)=false:=by rw[beq_eq_false_iff_ne];omega
    simp[this]
   rw[this,h1,decide_eq_true (by omega),decide_eq_true (by omega)]
theorem contains_nil(b:UInt8)(sub:Str):Lib.contains [] (b::sub)=false:=rfl
theorem X6n:∀ (s w r:Str),(32:UInt8)∉s→(32:UInt8)∉w→List.isPrefixOf (s++[32]) (w++32::r)=decide (s=w)
 | [],[],r,_,_=>by simp[List.isPrefixOf]
 | [],b::w,r,_,hw=>by
   have:¬ (32:UInt8)=b:=fun e=>hw (by simp[e])
   simp[List.isPrefixOf,this]
 | a::s,[],r,hs,_=>by
   have:¬ a=(32:UInt8):=fun e=>hs (by simp[e])
   simp[List.isPrefixOf,this]
 | a::s,b::w,r,hs,hw=>by
   have ih:=X6n s w r (fun h=>hs (by simp[h])) (fun h=>hw (by simp[h]))
   rw[List.cons_append,List.cons_append,List.isPrefixOf,ih]
   by_cases h:a=b
   ·subst h
    simp
   simp[h]
theorem X8s(s:Str):List.isPrefixOf (s++[32]) []=false:=by cases s<;>rfl
theorem K2w(b:UInt8)(x l:Str)(h:((32:UInt8)==b)=false):List.isPrefixOf (32::x) (b::l)=false:=by
 rw[List.isPrefixOf,h,Bool.false_and]
theorem K2x(x l:Str):List.isPrefixOf (32::x) (32::l)=x.isPrefixOf l:=by
 rw[List.isPrefixOf]
 rfl
def kwsB(s:Str):Bool:=decide (s=[105,102])||(decide (s=[110,111,116])||(decide (s=[119,104,105,108,101])||(decide (s=[102,111,114])||(decide (s=[105,110])||(decide (s=[115,119,105,116,99,104])||(decide (s=[99,97,115,101])||(decide (s=[102,110])||decide (s=[126]))))))))
theorem J2w(s:Str)(h:(32:UInt8)∉s):Lib.contains [32,105,102,32,110,111,116,32,119,104,105,108,101,32,102,111,114,32,105,110,32,115,119,105,116,99,104,32,99,97,115,101,32,102,110,32,126,32] (32::(s++[32]))=kwsB s:=by
 have p:=fun(w r:Str) hw=>X6n s w r h hw
 have p1:=p [105,102] [110,111,116,32,119,104,105,108,101,32,102,111,114,32,105,110,32,115,119,105,116,99,104,32,99,97,115,101,32,102,110,32,126,32] (by decide)
 have p2:=p [110,111,116] [119,104,105,108,101,32,102,111,114,32,105,110,32,115,119,105,116,99,104,32,99,97,115,101,32,102,110,32,126,32] (by decide)
 have p3:=p [119,104,105,108,101] [102,111,114,32,105,110,32,115,119,105,116,99,104,32,99,97,115,101,32,102,110,32,126,32] (by decide)
 have p4:=p [102,111,114] [105,110,32,115,119,105,116,99,104,32,99,97,115,101,32,102,110,32,126,32] (by decide)
 have p5:=p [105,110] [115,119,105,116,99,104,32,99,97,115,101,32,102,110,32,126,32] (by decide)
 have p6:=p [115,119,105,116,99,104] [99,97,115,101,32,102,110,32,126,32] (by decide)
 have p7:=p [99,97,115,101] [102,110,32,126,32] (by decide)
 have p8:=p [102,110] [126,32] (by decide)
 have p9:=p [126] [] (by decide)
 simp only[List.cons_append,List.nil_append]at p1 p2 p3 p4 p5 p6 p7 p8 p9
 have e:∀b:UInt8,((32:UInt8)==b)=false→∀l,Lib.contains (b::l) (32::(s++[32]))=Lib.contains l (32::(s++[32])):=fun b hb l=>by rw[contains_cons,K2w b _ l hb,Bool.false_or]
 have e32:∀l,Lib.contains (32::l) (32::(s++[32]))=(List.isPrefixOf (s++[32]) l||Lib.contains l (32::(s++[32]))):=fun l=>by rw[contains_cons,K2x]
 rw[e32,p1,e 105 rfl,e 102 rfl,e32,p2,e 110 rfl,e 111 rfl,e 116 rfl,e32,p3,e 119 rfl,e 104 rfl,e 105 rfl,e 108 rfl,e 101 rfl,e32,p4,e 102 rfl,e 111 rfl,e 114 rfl,e32,p5,e 105 rfl,e 110 rfl,e32,p6,e 115 rfl,e 119 rfl,e 105 rfl,e 116 rfl,e 99 rfl,e 104 rfl,e32,p7,e 99 rfl,e 97 rfl,e 115 rfl,e 101 rfl,e32,p8,e 102 rfl,e 110 rfl,e32,p9,e 126 rfl,e32,X8s,contains_nil,Bool.or_false,Bool.or_false]
 rfl
theorem X9l{s:Str}(h:kwsB s=true):(32:UInt8)∉s∧s≠[]:=by
 simp only[kwsB,Bool.or_eq_true,decide_eq_true_eq]at h
 rcases h with rfl|rfl|rfl|rfl|rfl|rfl|rfl|rfl|rfl<;>decide
theorem Q0g{α:Type}[Inhabited α](x:Option α):Q0d true x=x:=rfl
theorem K2b(s:Str)(hl:s.length≤4000000000):F134 s=some (kwsB s):=by
 rw[F134]
 by_cases h0:s=[]
 ·subst h0
  rfl
 rw[decide_eq_false h0,Bool.not_false]
 show(L_IndexByte s 32).bind _=_
 rw[L_IndexByte,Option.bind_some]
 have hi:=X1b s 32
 rw[show(32:Int).toNat.toUInt8=(32:UInt8) from rfl]
 rw[hi]
 by_cases h1:(32:UInt8)∈s
 ·have:s.contains 32=true:=List.contains_iff_mem.2 h1
  rw[this]
  have h2:kwsB s=false:=by
   cases h:kwsB s
   ·rfl
   exact absurd h1 (X9l h).1
  rw[h2]
  rfl
 have:s.contains 32=false:=by
  cases h:s.contains 32
  ·rfl
  exact absurd (List.contains_iff_mem.1 h) h1
 rw[this]
 show(catO [32] s).bind _=_
 rw[catO,if_pos (by simp;omega),Option.bind_some]
 show(catO ([32]++s) [32]).bind _=_
 rw[catO,if_pos (by simp;omega),Option.bind_some]
 rw[Bool.not_false,Bool.true_and,Q0g,L_SContains,if_pos (by decide),Option.bind_some,show([32]++s++[32]:Str)=32::(s++[32]) from rfl,J2w s h1]
 rfl
theorem X9k(s:Str):((!kwsB s||decide (s=[110,111,116]))||decide (s=[105,110]))=!keyB s:=by
 by_cases h1:s=[110,111,116]
 ·subst h1;rfl
 by_cases h2:s=[105,110]
 ·subst h2;rfl
 rw[decide_eq_false h1,decide_eq_false h2,Bool.or_false,Bool.or_false,kwsB,keyB,decide_eq_false h1,decide_eq_false h2]
 simp only[Bool.false_or,Bool.or_assoc]
def spcB(c:Int):Bool:=(decide (c=32)||(decide (c=9)||(decide (c=10)||(decide (c=59)||(decide (c=38)||(decide (c=124)||(decide (c=40)||(decide (c=41)||(decide (c=123)||(decide (c=125)||(decide (c=60)||(decide (c=62)||(decide (c=61)||(decide (c=94)||(decide (c=96)||(decide (c=36)||decide (c=39)))))))))))))))))
theorem Q3g(a b:Bool):(bif a then a else b)=(a||b):=by cases a<;>rfl
theorem K0n(a:Bool):(bif a then some false else some true)=some (!a):=by cases a<;>rfl
theorem K1h(c:Int):F238 c=some (!spcB c):=by
 rw[F238]
 simp only[Q3g]
 rw[K0n]
 rfl
theorem J9l(x:UInt8):L_IndexByte [32,9,10,59,38,124,40,41,123,125,60,62,61,94,96,36,39] (B x)=some (Lib.indexByte [32,9,10,59,38,124,40,41,123,125,60,62,61,94,96,36,39] x)∧decide (0≤Lib.indexByte [32,9,10,59,38,124,40,41,123,125,60,62,61,94,96,36,39] x)=spcB (B x):=by
 refine⟨?_,?_⟩
 ·rw[L_IndexByte,B,Int.toNat_natCast]
  congr 2
  exact UInt8.ofNat_toNat
 rw[←Lib.contains_iff_indexByte,spcB]
 simp only[List.contains_cons,List.contains_nil,Bool.or_false]
 have e:∀y:UInt8,(x==y)=decide (B x=B y):=fun y=>by
  rw[B,B,Q5o];by_cases h:x=y<;>simp[h]
 simp only[e]
 rfl
theorem X9r(x:UInt8):L_IndexByte [35,33,64] (B x)=some (Lib.indexByte [35,33,64] x)∧decide (0≤Lib.indexByte [35,33,64] x)=(decide (B x=35)||(decide (B x=33)||decide (B x=64))):=by
 refine⟨?_,?_⟩
 ·rw[L_IndexByte,B,Int.toNat_natCast]
  congr 2
  exact UInt8.ofNat_toNat
 rw[←Lib.contains_iff_indexByte]
 simp only[List.contains_cons,List.contains_nil,Bool.or_false]
 have e:∀y:UInt8,(x==y)=decide (B x=B y):=fun y=>by
  rw[B,B,Q5o];by_cases h:x=y<;>simp[h]
 simp only[e]
 rfl
def mkB(q:UInt8):Bool:=decide (B q=48)||decide (B q=49)
def okQ(p:UInt8×UInt8):Bool:=mkB p.1&&!(decide (B p.1=48)&&spcB (B p.2))
def X4m:Str→Str→Bool
 | a::_,c::_=>decide (B a=49)||!(decide (B c=35)||(decide (B c=33)||decide (B c=64)))
 | _,_=>true
def Z5i(t q:Str):Bool:=decide (q.length=t.length)&&((q.zip t).all okQ&&X4m q t)
theorem X0o(w:Word)(hl:w.quoted_.length≤1000000):∀n j:Nat,j≤w.quoted_.length→w.quoted_.length-j<n→iter (Z0u w) n (j:Int)=some ((w.quoted_.drop j).all mkB)
 | 0,j,_,h=>by omega
 | n+1,j,hj,hn=>by
   show Z0u w (iter (Z0u w) n) (j:Int)=_
   rw[Z0u]
   by_cases hc:j<w.quoted_.length
   ·rw[decide_eq_true (by omega),Q0e,Q2d hc,Option.bind_some,Q0y hc,List.all_cons]
    have e:(!decide ((w.quoted_[j].toNat:Int)=48)&&!decide ((w.quoted_[j].toNat:Int)=49))=!mkB w.quoted_[j]:=by rw[mkB,Bool.not_or];rfl
    rw[e]
    cases mkB w.quoted_[j]with
    | true=>
      rw[Bool.not_true,Q0c,Q0r (by omega) (by omega),Bool.true_and]
      exact X0o w hl n (j+1) (by omega) (by omega)
    | false=>rfl
   rw[decide_eq_false (by omega),Q0c,List.drop_eq_nil_of_le (by omega)]
   rfl
theorem X2w(w:Word)(hl:w.quoted_.length≤1000000):F263 w=some (decide (w.text_.length=w.quoted_.length)&&w.quoted_.all mkB):=by
 rw[F263]
 by_cases h:w.text_.length=w.quoted_.length
 ·rw[decide_eq_true (p:=((w.text_.length:Int)=(w.quoted_.length:Int))) (by omega),decide_eq_true h,Bool.not_true,Q0c,Bool.true_and]
  have:=X0o w hl BIG 0 (Nat.zero_le _) (by unfold BIG;omega)
  rw[List.drop_zero]at this
  exact this
 rw[decide_eq_false (p:=((w.text_.length:Int)=(w.quoted_.length:Int))) (by omega),decide_eq_false h]
 rfl
theorem J2t(w:Word)(hl:w.quoted_.length≤1000000)(he:w.text_.length=w.quoted_.length):∀n j:Nat,j+1≤w.quoted_.length→w.quoted_.length-(j+1)<n→iter (Q4c w) n ((j+1:Nat):Int)=some (((w.quoted_.drop (j+1)).zip (w.text_.drop (j+1))).all fun p=>!(decide (B p.1=48)&&spcB (B p.2)))
 | 0,j,_,h=>by omega
 | n+1,j,hj,hn=>by
   show Q4c w (iter (Q4c w) n) ((j+1:Nat):Int)=_
   rw[Q4c]
   by_cases hc:j+1<w.quoted_.length
   ·have hc2:j+1<w.text_.length:=by omega
    obtain⟨s1,s2⟩:=J9l w.text_[j+1]
    rw[decide_eq_true (p:=(((j+1:Nat):Int)<(w.text_.length:Int))) (by omega),Q0e,Q2d hc,Option.bind_some,Q2d hc2,Q0y hc,Q0y hc2,List.zip_cons_cons,List.all_cons]
    have e0:decide (((j+1:Nat):Int)=0)=false:=decide_eq_false (by omega)
    rw[e0]
    by_cases h48:(w.quoted_[j+1].toNat:Int)=48
    ·have h48':B w.quoted_[j+1]=48:=h48
     rw[decide_eq_true h48,decide_eq_true h48',Q0g,Option.bind_some,Q0g]
     rw[show((w.text_[j+1].toNat:Int))=B w.text_[j+1] from rfl,s1,Option.bind_some,s2]
     cases spcB (B w.text_[j+1])with
     | true=>rfl
     | false=>
       show(bif false then some false else iter (Q4c w) n (IntKind.wrap .i64 (((j+1:Nat):Int)+1)))=_
       rw[Q0c,Q0r (by omega) (by omega)]
       exact J2t w hl he n (j+1) (by omega) (by omega)
    have h48':¬ B w.quoted_[j+1]=48:=h48
    rw[decide_eq_false h48,decide_eq_false h48']
    show(bif false then some false else iter (Q4c w) n (IntKind.wrap .i64 (((j+1:Nat):Int)+1)))=_
    rw[Q0c,Q0r (by omega) (by omega)]
    exact J2t w hl he n (j+1) (by omega) (by omega)
   rw[decide_eq_false (p:=(((j+1:Nat):Int)<(w.text_.length:Int))) (by omega),Q0c,show List.drop _ w.quoted_=[] from List.drop_eq_nil_of_le (by omega)]
   rfl
theorem J3m{α:Type}(p q:α→Bool):∀l:List α,l.all (fun x=>p x&&q x)=(l.all p&&l.all q)
 | []=>rfl
 | x::r=>by
   rw[List.all_cons,List.all_cons,List.all_cons,J3m p q r]
   cases p x<;>cases q x<;>cases r.all p<;>rfl
theorem J3l(p:UInt8→Bool):∀q t:Str,q.length=t.length→(q.zip t).all (fun x=>p x.1)=q.all p
 | [],[],_=>rfl
 | a::q,c::t,h=>by
   rw[List.zip_cons_cons,List.all_cons,List.all_cons,J3l p q t (by simpa using h)]
theorem K3f{a:UInt8}(h:mkB a=true):decide (B a=49)=!decide (B a=48):=by
 simp only[mkB,Bool.or_eq_true,decide_eq_true_eq]at h
 rcases h with h|h
 ·rw[decide_eq_true h,decide_eq_false (by omega)];rfl
 rw[decide_eq_true h,decide_eq_false (by omega)];rfl
theorem K1e(w:Word)(hl:w.quoted_.length≤1000000):F278 w=some (Z5i w.text_ w.quoted_):=by
 rw[F278,X2w w hl,Option.bind_some,Z5i]
 by_cases he:w.text_.length=w.quoted_.length
 ·rw[decide_eq_true he,decide_eq_true he.symm,Bool.true_and,Bool.true_and]
  have hs:((w.quoted_.zip w.text_).all okQ)=(w.quoted_.all mkB&&(w.quoted_.zip w.text_).all fun p=>!(decide (B p.1=48)&&spcB (B p.2))):=by
   rw[←J3l mkB w.quoted_ w.text_ he.symm,←J3m]
   rfl
  rw[hs]
  cases hm:w.quoted_.all mkB with
  | false=>rfl
  | true=>
    rw[Bool.not_true,Q0c,Bool.true_and]
    show Q4c w (iter (Q4c w) 1180591620717411303423) 0=_
    rw[Q4c]
    cases hq:w.quoted_ with
    | nil=>
      rw[hq]at he
      have:w.text_=[]:=List.eq_nil_of_length_eq_zero he
      rw[this]
      rfl
    | cons a q=>
      cases ht:w.text_ with
      | nil=>rw[hq,ht]at he;cases he
      | cons c t=>
        have hlq:0+1≤w.quoted_.length:=by rw[hq];simp
        have rest:=J2t w hl he 1180591620717411303423 0 hlq (by omega)
        rw[hq,ht]at rest
        rw[hq,List.all_cons,Bool.and_eq_true]at hm
        have h49:=K3f hm.1
        obtain⟨s1,s2⟩:=J9l c
        obtain⟨g1,g2⟩:=X9r c
        rw[show(sidx (a::q) 0)=some (B a) from rfl,show(sidx (c::t) 0)=some (B c) from rfl,Option.bind_some,List.zip_cons_cons,List.all_cons,X4m,h49]
        rw[decide_eq_true (p:=((0:Int)<((c::t).length:Int))) (by simp),Q0e]
        have rest':iter (Q4c w) 1180591620717411303423 (IntKind.wrap .i64 (0+1))=some ((q.zip t).all fun p=>!(decide (B p.1=48)&&spcB (B p.2))):=rest
        rw[rest']
        by_cases h48:B a=48
        ·rw[decide_eq_true h48,Q0g,Option.bind_some,Q0g,s1,Option.bind_some,s2]
         cases hsp:spcB (B c)with
         | true=>rfl
         | false=>
           show(L_IndexByte [35,33,64] (B c)).bind _=_
           rw[g1,Option.bind_some]
           have:decide ((0:Int)=0)=true:=rfl
           rw[this,g2]
           cases(decide (B c=35)||(decide (B c=33)||decide (B c=64)))with
           | true=>cases((q.zip t).all fun p=>!(decide (B p.1=48)&&spcB (B p.2)))<;>rfl
           | false=>cases((q.zip t).all fun p=>!(decide (B p.1=48)&&spcB (B p.2)))<;>rfl
        rw[decide_eq_false h48]
        show some _=_
        cases((q.zip t).all fun p=>!(decide (B p.1=48)&&spcB (B p.2)))<;>rfl
 rw[decide_eq_false he,decide_eq_false (fun h=>he h.symm)]
 rfl
theorem J2u(w:Word)(hl:w.text_.length≤1000000)(he:w.text_.length=w.quoted_.length):∀n j:Nat,j≤w.quoted_.length→w.quoted_.length-j<n→iter (Q7j w) n (j:Int)=some (((w.quoted_.drop j).zip (w.text_.drop j)).all okQ&&X4m w.quoted_ w.text_)
 | 0,j,_,h=>by omega
 | n+1,j,hj,hn=>by
   show Q7j w (iter (Q7j w) n) (j:Int)=_
   rw[Q7j]
   by_cases hc:j<w.quoted_.length
   ·have hc2:j<w.text_.length:=by omega
    rw[decide_eq_true (p:=((j:Int)<(w.text_.length:Int))) (by omega),Q0e,Q2d hc,Option.bind_some,Q2d hc2,Q0y hc,Q0y hc2,List.zip_cons_cons,List.all_cons]
    have e:(!decide ((w.quoted_[j].toNat:Int)=48)&&!decide ((w.quoted_[j].toNat:Int)=49))=!mkB w.quoted_[j]:=by rw[mkB,Bool.not_or];rfl
    rw[e,okQ]
    cases hm:mkB w.quoted_[j]with
    | false=>rfl
    | true=>
      by_cases h48:(w.quoted_[j].toNat:Int)=48
      ·have h48':B w.quoted_[j]=48:=h48
       rw[decide_eq_true h48,decide_eq_true h48']
       show(F238 _).bind _=_
       rw[K1h,Option.bind_some,show((w.text_[j].toNat:Int))=B w.text_[j] from rfl]
       cases spcB (B w.text_[j])with
       | true=>rfl
       | false=>
         show(bif false then some false else iter (Q7j w) n (IntKind.wrap .i64 ((j:Int)+1)))=_
         rw[Q0c,Q0r (by omega) (by omega)]
         exact J2u w hl he n (j+1) (by omega) (by omega)
      have h48':¬ B w.quoted_[j]=48:=h48
      rw[decide_eq_false h48,decide_eq_false h48']
      show(bif false then some false else iter (Q7j w) n (IntKind.wrap .i64 ((j:Int)+1)))=_
      rw[Q0c,Q0r (by omega) (by omega)]
      exact J2u w hl he n (j+1) (by omega) (by omega)
   rw[decide_eq_false (p:=((j:Int)<(w.text_.length:Int))) (by omega),Q0c,show List.drop _ w.quoted_=[] from List.drop_eq_nil_of_le (by omega),List.zip_nil_left,List.all_nil,Bool.true_and]
   cases hq:w.quoted_ with
   | nil=>
     rw[hq]at he
     rw[List.eq_nil_of_length_eq_zero he]
     rfl
   | cons a q=>
     cases ht:w.text_ with
     | nil=>rw[hq,ht]at he;cases he
     | cons c t=>
       rw[X4m,show(sidx (a::q) 0)=some (B a) from rfl,show(sidx (c::t) 0)=some (B c) from rfl,decide_eq_false (p:=(c::t=([]:Str))) (by simp)]
       show(Q0d _ (some (B c))).bind _=_
       cases decide (B a=49)with
       | true=>rfl
       | false=>
         show some _=_
         rw[Bool.or_false,Bool.false_or,Bool.false_or,Bool.not_or,Bool.not_or,Bool.and_assoc]
theorem K1k(w:Word)(hl:w.text_.length≤1000000):F214 w=some (Z5i w.text_ w.quoted_):=by
 rw[F214,Z5i]
 by_cases he:w.text_.length=w.quoted_.length
 ·rw[decide_eq_true (p:=((w.quoted_.length:Int)=(w.text_.length:Int))) (by omega),decide_eq_true he.symm,Bool.not_true,Q0c,Bool.true_and]
  have:=J2u w hl he BIG 0 (Nat.zero_le _) (by unfold BIG;omega)
  rw[List.drop_zero,List.drop_zero]at this
  exact this
 rw[decide_eq_false (p:=((w.quoted_.length:Int)=(w.text_.length:Int))) (by omega),decide_eq_false (fun h=>he h.symm)]
 rfl
end Go.Abs.U48
namespace Go.Abs.U48
open Go Go.Proofs
def lev(k:Int):Int:=
 bif (decide (k=1)||(decide (k=2)||(decide (k=7)||(decide (k=8)||(decide (k=9)||(decide (k=10)||(decide (k=11)||(decide (k=12)||(decide (k=13)||(decide (k=15)||(decide (k=16)||decide (k=17))))))))))))then 1
 else bif decide (k=3)then 2 else bif (decide (k=5)||decide (k=6))then 3 else bif decide (k=14)then 4 else 0
theorem K2g(k:Int):F100 k=some (lev k):=by
 rw[F100,lev]
 simp only[Q3g]
 generalize (decide (k=1)||(decide (k=2)||(decide (k=7)||(decide (k=8)||(decide (k=9)||(decide (k=10)||(decide (k=11)||(decide (k=12)||(decide (k=13)||(decide (k=15)||(decide (k=16)||decide (k=17))))))))))))=a
 generalize decide (k=3)=b
 generalize (decide (k=5)||decide (k=6))=c
 generalize decide (k=14)=d
 cases a<;>cases b<;>cases c<;>cases d<;>rfl
def lvl(most k:Int):Bool:=!(decide (lev k<1)||decide (most<lev k))
def Q1v(k:Int)(nm:Str)(w r c:Nat):Bool:=
 bif (((((decide (k=2)||decide (k=10))||decide (k=15))&&!Q2z nm)||(!((decide (k=2)||decide (k=10))||decide (k=15))&&!decide (nm=[])))||((decide (0<r)&&!decide (k=1))&&!decide (k=12)))then false
 else bif decide (k=1)then(decide (0<w+r)&&decide (c=0))
 else bif decide (k=2)then(decide (w=1)&&decide (c≤1))
 else bif (decide (k=7)||(decide (k=13)||(decide (k=9)||decide (k=14))))then(decide (w=0)&&decide (c=1))
 else bif (decide (k=8)||(decide (k=11)||(decide (k=5)||decide (k=6))))then(decide (w=0)&&decide (c=2))
 else bif decide (k=10)then decide (c=1)
 else bif (decide (k=12)||decide (k=15))then decide (w=0)
 else bif decide (k=3)then(decide (w=0)&&decide (2≤c))
 else bif decide (k=16)then(decide (0<w)&&decide (c=0))
 else(decide (k=17)&&decide (w=1))
def J8c(w:Word):Bool:=(((decide (w.kind_=0)&&decide (w.text_=[]))&&decide (w.quoted_=[]))&&decide (w.words_.length+w.cmd_.length=0))
def J0u(t:Str):Bool:=decide (t.getLast?=some 10)
def J3a(fd:Int)(w:Word):Bool:=
 ((((decide (fd=0)&&decide (w.kind_=1))&&decide (w.quoted_=List.replicate w.text_.length 48))&&decide (w.words_.length+w.cmd_.length=0))&&(decide (w.text_=[])||J0u w.text_))
def J9k(w:Word):Bool:=(decide (w.kind_=1)&&keyB w.text_)&&!Q6f w.quoted_
def Q9q:List Word→Bool
 | []=>false
 | w::_=>bif decide (w.kind_=4)then(match w.words_ with|[]=>false|u::_=>J9k u)else J9k w
mutual
def rW:Word→Bool
 | ⟨k,t,q,ws,cs⟩=>
   bif decide (k=1)then Z5i t q&&decide (ws.length+cs.length=0)
   else bif (decide (k=2)||decide (k=3))then(Q2z t&&decide (q=[]))&&decide (ws.length+cs.length=0)
   else bif decide (k=7)then(((Q2z t&&decide (q=[]))&&decide (0<ws.length))&&decide (cs.length=0))&&rWs ws
   else bif decide (k=5)then((decide (t=[])&&decide (q=[]))&&decide (cs.length=0))&&rWs ws
   else bif decide (k=6)then((decide (t=[])&&decide (q=[]))&&decide (ws.length=0))&&rUp cs 4
   else bif decide (k=4)then(ws.all fun x=>!decide (x.kind_=4))&&((((decide (t=[])&&decide (q=[]))&&decide (1<ws.length))&&decide (cs.length=0))&&rWs ws)
   else false
def rWs:List Word→Bool
 | []=>true
 | w::r=>rW w&&rWs r
def rC:Cmd→Bool
 | ⟨k,_,nm,ws,rs,ks⟩=>((Q1v k nm ws.length rs.length ks.length&&rWs ws)&&rRs rs) &&
   (bif decide (k=1)then(decide (ws.length=0)||!Q9q ws)
   else bif (decide (k=8)||decide (k=11))then rIf ks
   else bif (decide (k=12)||decide (k=15))then rUp ks 4
   else bif (decide (k=5)||decide (k=6))then rAnd ks
   else bif decide (k=14)then rUp ks 3
   else bif decide (k=17)then Z9y ks
   else rUp ks 1)
def rUp:List Cmd→Int→Bool
 | [],_=>true
 | c::r,m=>(lvl m c.kind_&&rC c)&&rUp r m
def rIf:List Cmd→Bool
 | []=>false
 | c::r=>((decide (c.kind_=12)&&decide (c.redirs_.length=0))&&rC c)&&rUp r 1
def rAnd:List Cmd→Bool
 | []=>true
 | c::r=>(lvl 3 c.kind_&&rC c)&&rUp r 2
def Q7w:Cmd→Bool
 | ⟨k,_,nm,ws,rs,ks⟩=>((((decide (k=18)&&decide (nm=[]))&&decide (rs.length=0))&&!decide (ws.length=0))&&rWs ws)&&rUp ks 4
def Z9y:List Cmd→Bool
 | []=>true
 | c::r=>Q7w c&&Z9y r
def rR:Redir→Bool
 | ⟨k,fd,fr,w,raw⟩=>
   bif (((((decide (fd<0)||decide (64≤fd))||decide (fr<0))||decide (64≤fr))||(!decide (k=5)&&!decide (fr=0)))||(!decide (k=4)&&raw))then false
   else bif (decide (k=1)||(decide (k=2)||decide (k=3)))then rW w
   else bif (decide (k=5)||decide (k=6))then J8c w
   else bif decide (k=4)then J3a fd w
   else false
def rRs:List Redir→Bool
 | []=>true
 | r::s=>rR r&&rRs s
end
theorem Z7p:∀l,rWs l=l.all rW
 | []=>by rw[rWs];rfl
 | x::r=>by rw[rWs,Z7p r];rfl
theorem J9z:∀l,rRs l=l.all rR
 | []=>by rw[rRs];rfl
 | x::r=>by rw[rRs,J9z r];rfl
theorem Z5z:∀l,Z9y l=l.all Q7w
 | []=>by rw[Z9y];rfl
 | x::r=>by rw[Z9y,Z5z r];rfl
theorem Q4b(m:Int):∀l,rUp l m=l.all fun c=>lvl m c.kind_&&rC c
 | []=>by rw[rUp];rfl
 | x::r=>by rw[rUp,Q4b m r];rfl
theorem Q6c(c:Cmd):rC c=(((Q1v c.kind_ c.name_ c.words_.length c.redirs_.length c.kids_.length&&c.words_.all rW)&&c.redirs_.all rR) &&
 (bif decide (c.kind_=1)then(decide (c.words_.length=0)||!Q9q c.words_)
 else bif (decide (c.kind_=8)||decide (c.kind_=11))then rIf c.kids_
 else bif (decide (c.kind_=12)||decide (c.kind_=15))then c.kids_.all fun c=>lvl 4 c.kind_&&rC c
 else bif (decide (c.kind_=5)||decide (c.kind_=6))then rAnd c.kids_
 else bif decide (c.kind_=14)then c.kids_.all fun c=>lvl 3 c.kind_&&rC c
 else bif decide (c.kind_=17)then c.kids_.all Q7w
 else c.kids_.all fun c=>lvl 1 c.kind_&&rC c)):=by
 obtain⟨_,_,_,ws,rs,ks⟩:=c
 rw[rC,Z7p,J9z,Z5z,Q4b,Q4b,Q4b]
theorem J7m(w:Word):rW w=
 (bif decide (w.kind_=1)then Z5i w.text_ w.quoted_&&decide (w.words_.length+w.cmd_.length=0)
 else bif (decide (w.kind_=2)||decide (w.kind_=3))then(Q2z w.text_&&decide (w.quoted_=[]))&&decide (w.words_.length+w.cmd_.length=0)
 else bif decide (w.kind_=7)then(((Q2z w.text_&&decide (w.quoted_=[]))&&decide (0<w.words_.length))&&decide (w.cmd_.length=0))&&w.words_.all rW
 else bif decide (w.kind_=5)then((decide (w.text_=[])&&decide (w.quoted_=[]))&&decide (w.cmd_.length=0))&&w.words_.all rW
 else bif decide (w.kind_=6)then((decide (w.text_=[])&&decide (w.quoted_=[]))&&decide (w.words_.length=0))&&w.cmd_.all fun c=>lvl 4 c.kind_&&rC c
 else bif decide (w.kind_=4)then(w.words_.all fun x=>!decide (x.kind_=4))&&((((decide (w.text_=[])&&decide (w.quoted_=[]))&&decide (1<w.words_.length))&&decide (w.cmd_.length=0))&&w.words_.all rW)
 else false):=by
 obtain⟨_,_,_,ws,cs⟩:=w
 rw[rW,Z7p,Q4b]
theorem Z7q(c:Cmd):Q7w c=(((((decide (c.kind_=18)&&decide (c.name_=[]))&&decide (c.redirs_.length=0))&&!decide (c.words_.length=0))&&c.words_.all rW)&&c.kids_.all fun c=>lvl 4 c.kind_&&rC c):=by
 obtain⟨_,_,_,ws,rs,ks⟩:=c
 rw[Q7w,Z7p,Q4b]
theorem X0a(r:Redir):rR r=
 (bif (((((decide (r.fd_<0)||decide (64≤r.fd_))||decide (r.from_<0))||decide (64≤r.from_))||(!decide (r.kind_=5)&&!decide (r.from_=0)))||(!decide (r.kind_=4)&&r.raw_))then false
 else bif (decide (r.kind_=1)||(decide (r.kind_=2)||decide (r.kind_=3)))then rW r.word_
 else bif (decide (r.kind_=5)||decide (r.kind_=6))then J8c r.word_
 else bif decide (r.kind_=4)then J3a r.fd_ r.word_
 else false):=by
 obtain⟨_,_,_,w,_⟩:=r
 rw[rR]
theorem X9m(n m:Nat):decide (IntKind.wrap .i64 ((n:Int)+(m:Int))=0)=decide (n+m=0)∨1000000<n+m:=by
 by_cases h:n+m≤1000000
 ·left
  rw[Q0r (by omega) (by omega)]
  exact decide_eq_decide.2 (by omega)
 right;omega
theorem sum0{n m:Nat}(h:n+m≤1000000):decide (IntKind.wrap .i64 ((n:Int)+(m:Int))=0)=decide (n+m=0):=by
 rcases X9m n m with h'|h'
 ·exact h'
 omega
theorem dN(n k:Nat):decide ((n:Int)=(k:Int))=decide (n=k):=decide_eq_decide.2 (by omega)
theorem Q3o{b:Bool}{x:Option Bool}{v:Bool}(h:b=true→x=some v):(Q0d b x).bind (fun r=>some (b&&r))=some (b&&v):=by
 cases b with
 | true=>rw[Q0g,h rfl];rfl
 | false=>rfl
theorem X2d(w184:Word→Option Bool)(p:Word→Bool)(l:List Word)(hl:l.length≤1000000)(h:∀x∈l,w184 x=some (p x)):F146 w184 l=some (l.all p):=by
 rw[F146,Q1t (body:=J4i l w184) l (fun u _ k=>(w184 u).bind fun r=>bif !r then some false else k) (some true) (fun _ _=>rfl) (by omega),Q9k p w184 true l 0 h,Bool.and_true]
theorem up65(w101:Cmd→Option Bool)(l:List Cmd)(most:Int)(hl:l.length≤1000000)(h:∀x∈l,w101 x=some (rC x)):F65 w101 l most=some (l.all fun c=>lvl most c.kind_&&rC c):=by
 rw[F65,Q1t (body:=X2r l most w101) l (fun u _ k=>(F100 u.kind_).bind fun r12=>(Q0d (!(decide (r12<1)||decide (most<r12))) (w101 u)).bind fun r15=>bif ((decide (r12<1)||decide (most<r12))||!r15)then some false else k) (some true) (fun _ _=>rfl) (by omega)]
 have:∀ (r:List Cmd) (i:Int),(∀x∈r,w101 x=some (rC x))→Q6h (fun(u:Cmd) _ k=>(F100 u.kind_).bind fun r12=>(Q0d (!(decide (r12<1)||decide (most<r12))) (w101 u)).bind fun r15=>bif ((decide (r12<1)||decide (most<r12))||!r15)then some false else k) (some true) r i=some (r.all fun c=>lvl most c.kind_&&rC c):=by
  intro r
  induction r with
  | nil=>intro i _;rfl
  | cons u r ih=>
    intro i hh
    rw[Q6h,K2g,Option.bind_some,hh u (by simp),List.all_cons,lvl]
    cases(decide (lev u.kind_<1)||decide (most<lev u.kind_))with
    | true=>rfl
    | false=>
      rw[Bool.not_false,Q0g,Option.bind_some,Bool.true_and,Bool.false_or]
      cases rC u with
      | true=>rw[Bool.not_true,Q0c,ih (i+1) (fun y hy=>hh y (by simp[hy])),Bool.true_and]
      | false=>rfl
 exact this l 0 h
theorem K2a(c:Cmd)(hn:c.name_.length≤1000000)(hw:c.words_.length+c.redirs_.length≤1000000):F145 c=some (Q1v c.kind_ c.name_ c.words_.length c.redirs_.length c.kids_.length):=by
 rw[F145,Q1v]
 have e1:decide ((0:Int)<(c.redirs_.length:Int))=decide (0<c.redirs_.length):=decide_eq_decide.2 (by omega)
 have e2:decide (0<IntKind.wrap .i64 ((c.words_.length:Int)+(c.redirs_.length:Int)))=decide (0<c.words_.length+c.redirs_.length):=by
  rw[Q0r (by omega) (by omega)]
  exact decide_eq_decide.2 (by omega)
 have e3:∀n k:Nat,decide ((n:Int)=(k:Int))=decide (n=k):=dN
 have k0:=e3 c.kids_.length 0
 have k1:=e3 c.kids_.length 1
 have k2:=e3 c.kids_.length 2
 have w0:=e3 c.words_.length 0
 have w1:=e3 c.words_.length 1
 have k1':decide ((c.kids_.length:Int)≤1)=decide (c.kids_.length≤1):=decide_eq_decide.2 (by omega)
 have k2':decide (2≤(c.kids_.length:Int))=decide (2≤c.kids_.length):=decide_eq_decide.2 (by omega)
 have w0':decide (0<(c.words_.length:Int))=decide (0<c.words_.length):=decide_eq_decide.2 (by omega)
 simp only[Int.ofNat_zero,Int.ofNat_one,show((0:Nat):Int)=0 from rfl,show((1:Nat):Int)=1 from rfl,show((2:Nat):Int)=2 from rfl]at k0 k1 k2 w0 w1
 simp only[Q3g,e1,e2,k0,k1,k2,w0,w1,k1',k2',w0']
 have hg:∀b:Bool,Q0d b (F172 c.name_)=some (b&&Q2z c.name_):=fun b=>by
  cases b
  ·rfl
  rw[Q0g,J4d _ (by omega),Bool.true_and]
 rw[hg,Option.bind_some]
 have hb:∀a n:Bool,(a&&!(a&&n))=(a&&!n):=fun a n=>by cases a<;>rfl
 rw[hb]
 generalize (((decide (c.kind_=2)||decide (c.kind_=10))||decide (c.kind_=15))&&!Q2z c.name_||!((decide (c.kind_=2)||decide (c.kind_=10))||decide (c.kind_=15))&&!decide (c.name_=[])||decide (0<c.redirs_.length)&&!decide (c.kind_=1)&&!decide (c.kind_=12))=x0
 generalize decide (c.kind_=1)=x1
 generalize (decide (c.kind_=7)||(decide (c.kind_=13)||(decide (c.kind_=9)||decide (c.kind_=14))))=x3
 generalize (decide (c.kind_=8)||(decide (c.kind_=11)||(decide (c.kind_=5)||decide (c.kind_=6))))=x4
 generalize (decide (c.kind_=12)||decide (c.kind_=15))=x6
 generalize decide (c.kind_=2)=x2
 generalize decide (c.kind_=10)=x5
 generalize decide (c.kind_=3)=x7
 generalize decide (c.kind_=16)=x8
 cases x0<;>cases x1<;>cases x2<;>cases x3<;>cases x4<;>cases x5<;>cases x6<;>cases x7<;>cases x8<;>rfl
theorem J0t{α:Type}(p:α→Bool)(w:α→Option Bool){fin:Option Bool}{b:Bool}(hf:fin=some b)(l:List α)(i:Int)(h:∀x∈l,w x=some (p x)):
 Q6h (fun u _ k=>(w u).bind fun r=>bif !r then some false else k) fin l i=some (l.all p&&b):=by
 rw[hf,Q9k p w b l i h]
theorem X0r(N:Nat)(hN:N≤1000000):∀n j:Nat,j≤N→N-j<n→iter (Z0z (N:Int)) n (List.replicate j (48:UInt8),(j:Int))=some (List.replicate N 48)
 | 0,j,_,h=>by omega
 | n+1,j,hj,hn=>by
   show Z0z (N:Int) (iter (Z0z (N:Int)) n) (List.replicate j (48:UInt8),(j:Int))=_
   rw[Z0z]
   by_cases hc:j<N
   ·rw[decide_eq_true (by omega),Q0e,catO,if_pos (by simp;omega),Option.bind_some,Q0r (by omega) (by omega)]
    have e:List.replicate j (48:UInt8)++[48]=List.replicate (j+1) 48:=List.replicate_succ'.symm
    rw[e]
    exact X0r N hN n (j+1) (by omega) (by omega)
   rw[decide_eq_false (by omega),Q0c,show j=N by omega]
theorem K1r(N:Nat)(hN:N≤1000000):F186 (N:Int)=some (List.replicate N 48):=by
 rw[F186]
 exact X0r N hN BIG 0 (Nat.zero_le _) (by unfold BIG;omega)
theorem K1s(w:Word)(h:w.words_.length+w.cmd_.length≤1000000):F185 w=some (J8c w):=by
 rw[F185,J8c,sum0 h]
theorem len0(t:Str):decide ((t.length:Int)=0)=decide (t=[]):=by
 cases t with
 | nil=>rfl
 | cons a t=>rw[decide_eq_false (by simp;omega),decide_eq_false (by simp)]
theorem X9j(t:Str)(h:t≠[])(hl:t.length≤1000000):∃c:UInt8,sidx t (IntKind.wrap .i64 ((t.length:Int)-1))=some (B c)∧J0u t=decide (B c=10):=by
 have hp:0<t.length:=by
  cases t with
  | nil=>exact absurd rfl h
  | cons a t=>simp
 rw[Q0r (by omega) (by omega),show(t.length:Int)-1=((t.length-1:Nat):Int)by omega,Q2d (by omega)]
 refine⟨_,rfl,?_⟩
 rw[J0u,List.getLast?_eq_getElem?,List.getElem?_eq_getElem (by omega),B]
 rw[show((10:Int))=(((10:UInt8).toNat:Nat):Int) from rfl,Q5o]
 exact decide_eq_decide.2 (by simp)
theorem K1z(w184:Word→Option Bool)(d:Redir)(hw:w184 d.word_=some (rW d.word_))(h1:d.word_.words_.length+d.word_.cmd_.length≤1000000)(h2:d.word_.text_.length≤1000000):F147 w184 d=some (rR d):=by
 rw[F147,X0a]
 simp only[Q3g]
 cases((((((decide (d.fd_<0)||decide (64≤d.fd_))||decide (d.from_<0))||decide (64≤d.from_))||(!decide (d.kind_=5)&&!decide (d.from_=0)))||(!decide (d.kind_=4)&&d.raw_)))with
 | true=>rfl
 | false=>
   rw[Q0c,Q0c]
   cases(decide (d.kind_=1)||(decide (d.kind_=2)||decide (d.kind_=3)))with
   | true=>rw[Q0e,Q0e,hw];rfl
   | false=>
     rw[Q0c,Q0c]
     cases(decide (d.kind_=5)||decide (d.kind_=6))with
     | true=>rw[Q0e,Q0e,K1s _ h1];rfl
     | false=>
       rw[Q0c,Q0c]
       cases decide (d.kind_=4)with
       | false=>rfl
       | true=>
         rw[Q0e,Q0e,J3a,sum0 h1,len0]
         cases(decide (d.fd_=0)&&decide (d.word_.kind_=1))with
         | false=>rfl
         | true=>
           rw[Q0g,K1r _ h2,Option.bind_some,Bool.true_and]
           cases decide (d.word_.quoted_=List.replicate d.word_.text_.length 48)with
           | false=>rfl
           | true=>
             rw[Bool.true_and]
             cases decide (d.word_.words_.length+d.word_.cmd_.length=0)with
             | false=>rfl
             | true=>
               rw[Bool.true_and]
               by_cases h0:d.word_.text_=[]
               ·rw[h0];rfl
               rw[decide_eq_false h0,Bool.not_false,Q0g]
               obtain⟨c,e1,e2⟩:=X9j d.word_.text_ h0 h2
               rw[e1,Option.bind_some,e2]
theorem Z7d(k:Int)(t q:Str)(ws:List Word)(cs:List Cmd)(hq:q.length≤1000000):Z1d (k,t,q,ws,cs)=some ((decide (k=1)&&keyB t)&&!Q6f q):=by
 rw[Z1d]
 cases decide (k=1)with
 | false=>rfl
 | true=>
   rw[Q0g,K1q,Option.bind_some,Bool.true_and]
   cases keyB t with
   | false=>rfl
   | true=>rw[Q0g,K1v _ (by omega),Option.bind_some]
theorem K1y(w:Word)(r:List Word)(hq:w.quoted_.length≤1000000)(h:w.kind_=4→∃u s,w.words_=u::s∧u.quoted_.length≤1000000):F148 w=some (Q9q (w::r)):=by
 rw[F148,Q9q]
 by_cases h4:w.kind_=4
 ·obtain⟨u,s,e,hu⟩:=h h4
  rw[decide_eq_true h4,Q0e,Q0e,e,Q4d,Option.bind_some,Z7d _ _ _ _ _ hu]
  rfl
 rw[decide_eq_false h4,Q0c,Q0c,Z7d _ _ _ _ _ hq]
 rfl
theorem K1x(w101:Cmd→Option Bool)(w184:Word→Option Bool)(l:List Cmd)(hl:l.length≤1000000)(h:∀c∈l,c.words_.length≤1000000∧c.kids_.length≤1000000∧(∀x∈c.words_,w184 x=some (rW x))∧∀x∈c.kids_,w101 x=some (rC x)):F150 w101 w184 l=some (l.all Q7w):=by
 rw[F150,Q1t (body:=J4h l w184 w101) l (fun u8 _ k=>(Q0d (!(((!decide (u8.kind_=18)||!decide (u8.name_=[]))||decide (0<(u8.redirs_.length:Int)))||decide ((u8.words_.length:Int)=0))) (F146 w184 u8.words_)).bind fun r11=>
  (Q0d (!((((!decide (u8.kind_=18)||!decide (u8.name_=[]))||decide (0<(u8.redirs_.length:Int)))||decide ((u8.words_.length:Int)=0))||!r11)) (F30 w101 u8.kids_)).bind fun r14=>
  (bif (((((!decide (u8.kind_=18)||!decide (u8.name_=[]))||decide (0<(u8.redirs_.length:Int)))||decide ((u8.words_.length:Int)=0))||!r11)||!r14)then some false else k)) (some true) (fun _ _=>rfl) (by omega)]
 have:∀ (r:List Cmd) (i:Int),(∀c∈r,c.words_.length≤1000000∧c.kids_.length≤1000000∧(∀x∈c.words_,w184 x=some (rW x))∧∀x∈c.kids_,w101 x=some (rC x))→
  Q6h (fun(u8:Cmd) _ k=>(Q0d (!(((!decide (u8.kind_=18)||!decide (u8.name_=[]))||decide (0<(u8.redirs_.length:Int)))||decide ((u8.words_.length:Int)=0))) (F146 w184 u8.words_)).bind fun r11=>
  (Q0d (!((((!decide (u8.kind_=18)||!decide (u8.name_=[]))||decide (0<(u8.redirs_.length:Int)))||decide ((u8.words_.length:Int)=0))||!r11)) (F30 w101 u8.kids_)).bind fun r14=>
  (bif (((((!decide (u8.kind_=18)||!decide (u8.name_=[]))||decide (0<(u8.redirs_.length:Int)))||decide ((u8.words_.length:Int)=0))||!r11)||!r14)then some false else k)) (some true) r i=some (r.all Q7w):=by
  intro r
  induction r with
  | nil=>intro i _;rfl
  | cons u r ih=>
    intro i hh
    obtain⟨g1,g2,g3,g4⟩:=hh u (by simp)
    have ih':=ih (i+1) (fun y hy=>hh y (by simp[hy]))
    rw[Q6h,List.all_cons,ih',Z7q]
    have e1:decide (0<(u.redirs_.length:Int))=!decide (u.redirs_.length=0):=by
     by_cases h:u.redirs_.length=0
     ·rw[decide_eq_true h,decide_eq_false (by omega)];rfl
     rw[decide_eq_false h,decide_eq_true (by omega)];rfl
    have e2:decide ((u.words_.length:Int)=0)=decide (u.words_.length=0):=decide_eq_decide.2 (by omega)
    rw[e1,e2]
    have e3:(((!decide (u.kind_=18)||!decide (u.name_=[]))||!decide (u.redirs_.length=0))||decide (u.words_.length=0))=!(((decide (u.kind_=18)&&decide (u.name_=[]))&&decide (u.redirs_.length=0))&&!decide (u.words_.length=0)):=by
     simp only[Bool.not_and,Bool.not_not]
    rw[e3]
    cases(((decide (u.kind_=18)&&decide (u.name_=[]))&&decide (u.redirs_.length=0))&&!decide (u.words_.length=0))with
    | false=>rfl
    | true=>
      rw[Bool.not_true,Bool.not_false,Q0g,X2d w184 rW u.words_ g1 g3,Option.bind_some,Bool.false_or,Bool.true_and]
      cases u.words_.all rW with
      | false=>rfl
      | true=>
        rw[Bool.not_true,Bool.not_false,Q0g,F30,up65 w101 u.kids_ 4 g2 g4,Option.bind_some,Option.bind_some,Bool.false_or,Bool.true_and]
        cases(u.kids_.all fun c=>lvl 4 c.kind_&&rC c)with
        | false=>rfl
        | true=>rfl
 exact this l 0 h
theorem Z5x{k:Int}{nm:Str}{w r c:Nat}(h:Q1v k nm w r c=true)(hk:k=8∨k=11∨k=5∨k=6):c=2:=by
 rcases hk with rfl|rfl|rfl|rfl<;>simp[Q1v]at h<;>exact h.2.2
theorem J9y{w:Word}(h:rW w=true)(hk:w.kind_=4):1<w.words_.length:=by
 rw[J7m,hk]at h
 simp at h
 exact h.2.1.1.2
theorem two{α:Type}{l:List α}(h:l.length=2):∃a b,l=[a,b]:=by
 rcases l with _|⟨a,_|⟨b,_|⟨c,r⟩⟩⟩<;>simp at h
 exact⟨a,b,rfl⟩
theorem K2f(w101:Cmd→Option Bool)(w184:Word→Option Bool)(c:Cmd)(hn:c.name_.length≤1000000)(l1:c.words_.length+c.redirs_.length≤1000000)(l2:c.kids_.length≤1000000)
 (hw:∀x∈c.words_,w184 x=some (rW x)) (hwq:∀x∈c.words_,x.quoted_.length≤1000000∧∀y∈x.words_,y.quoted_.length≤1000000)
 (hr:∀d∈c.redirs_,w184 d.word_=some (rW d.word_)∧d.word_.words_.length+d.word_.cmd_.length≤1000000∧d.word_.text_.length≤1000000)
 (hk:∀x∈c.kids_,w101 x=some (rC x))
 (hkk:∀k∈c.kids_,k.words_.length≤1000000∧k.kids_.length≤1000000∧(∀x∈k.words_,w184 x=some (rW x))∧∀x∈k.kids_,w101 x=some (rC x)):
 F101 w101 w184 c=some (rC c):=by
 rw[F101,K2a c hn l1,Option.bind_some,Q6c]
 cases hs:Q1v c.kind_ c.name_ c.words_.length c.redirs_.length c.kids_.length with
 | false=>rfl
 | true=>
   rw[Q0g,X2d w184 rW c.words_ (by omega) hw,Option.bind_some,Bool.true_and]
   cases hws:c.words_.all rW with
   | false=>rfl
   | true=>
     rw[Bool.not_true,Bool.or_self,Q0c,Bool.true_and]
     have F30_is:∀l:List Cmd,l.length≤1000000→(∀x∈l,w101 x=some (rC x))→F30 w101 l=some (l.all fun c=>lvl 4 c.kind_&&rC c):=fun l hl h=>by rw[F30,up65 w101 l 4 hl h];rfl
     rw[Q1t (body:=J4m c w184 w101) c.redirs_ (fun u _ k=>(F147 w184 u).bind fun r=>bif !r then some false else k) _ (fun _ _=>rfl) (by omega)]
     refine J0t rR (F147 w184) ?_ c.redirs_ 0 (fun d hd=>K1z w184 d (hr d hd).1 (hr d hd).2.1 (hr d hd).2.2)
     simp only[Q3g]
     cases h1:decide (c.kind_=1)with
     | true=>
       rw[Q0e,Q0e]
       have e2:decide ((c.words_.length:Int)=0)=decide (c.words_.length=0):=decide_eq_decide.2 (by omega)
       rw[e2]
       cases hc:c.words_ with
       | nil=>rfl
       | cons u r=>
         rw[hc]at hws hwq
         rw[List.all_cons,Bool.and_eq_true]at hws
         have hu:=hwq u (by simp)
         have:decide ((u::r).length=0)=false:=decide_eq_false (by simp)
         rw[this,Bool.not_false,Q0g,Q4d,Option.bind_some,Q0g,K1y u r hu.1 (fun h4=>by
          have:=J9y hws.1 h4
          cases hx:u.words_ with
          | nil=>rw[hx]at this;simp at this
          | cons y s=>exact⟨y,s,rfl,hu.2 y (by rw[hx];simp)⟩),Option.bind_some]
     | false=>
       rw[Q0c,Q0c]
       cases h8:(decide (c.kind_=8)||decide (c.kind_=11))with
       | true=>
         rw[Q0e,Q0e]
         simp only[Bool.or_eq_true,decide_eq_true_eq]at h8
         obtain⟨a,b,e⟩:=two (Z5x hs (h8.elim .inl fun h=>.inr (.inl h)))
         rw[e]at hk ⊢
         rw[Q4d,Option.bind_some,F149,rIf,Q4b,List.all_cons,List.all_nil,Bool.and_true]
         have e2:decide ((a.redirs_.length:Int)=0)=decide (a.redirs_.length=0):=decide_eq_decide.2 (by omega)
         rw[e2]
         cases(decide (a.kind_=12)&&decide (a.redirs_.length=0))with
         | false=>rfl
         | true=>
           rw[Q0g,hk a (by simp),Option.bind_some,Option.bind_some,Bool.true_and]
           cases rC a with
           | false=>rfl
           | true=>
             rw[Q0g,show Q3z [a,b] 1 (([a,b]:List Cmd).length:Int)=some [b] from rfl,Option.bind_some,Q0g,up65 w101 [b] 1 (by simp) (fun x hx=>hk x (by rw[List.mem_singleton.1 hx];simp)),Option.bind_some,List.all_cons,List.all_nil,Bool.and_true]
       | false=>
         rw[Q0c,Q0c]
         cases h12:(decide (c.kind_=12)||decide (c.kind_=15))with
         | true=>rw[Q0e,Q0e,F30_is _ l2 hk];rfl
         | false=>
           rw[Q0c,Q0c]
           cases h5:(decide (c.kind_=5)||decide (c.kind_=6))with
           | true=>
             rw[Q0e,Q0e]
             simp only[Bool.or_eq_true,decide_eq_true_eq]at h5
             obtain⟨a,b,e⟩:=two (Z5x hs (h5.elim (fun h=>.inr (.inr (.inl h))) fun h=>.inr (.inr (.inr h))))
             rw[e]at hk ⊢
             rw[show Q3z [a,b] 0 1=some [a] from rfl,Option.bind_some,up65 w101 [a] 3 (by simp) (fun x hx=>hk x (by rw[List.mem_singleton.1 hx];simp)),Option.bind_some,rAnd,Q4b,List.all_cons,List.all_nil,Bool.and_true,List.all_cons,List.all_nil,Bool.and_true]
             cases(lvl 3 a.kind_&&rC a)with
             | false=>rfl
             | true=>
               rw[Q0g,show Q3z [a,b] 1 (([a,b]:List Cmd).length:Int)=some [b] from rfl,Option.bind_some,Q0g,up65 w101 [b] 2 (by simp) (fun x hx=>hk x (by rw[List.mem_singleton.1 hx];simp)),Option.bind_some,List.all_cons,List.all_nil,Bool.and_true]
           | false=>
             rw[Q0c,Q0c]
             cases h14:decide (c.kind_=14)with
             | true=>rw[Q0e,Q0e,up65 w101 _ 3 l2 hk];rfl
             | false=>
               rw[Q0c,Q0c]
               cases h17:decide (c.kind_=17)with
               | true=>rw[Q0e,Q0e,K1x w101 w184 c.kids_ l2 hkk];rfl
               | false=>rw[Q0c,Q0c,up65 w101 _ 1 l2 hk];rfl
theorem K1t(w101:Cmd→Option Bool)(w184:Word→Option Bool)(w:Word)(ht:w.text_.length≤1000000)(hl:w.words_.length+w.cmd_.length≤1000000)(hw:∀x∈w.words_,w184 x=some (rW x))(hc:∀x∈w.cmd_,w101 x=some (rC x)):
 F184 w101 w184 w=some (rW w):=by
 rw[F184,J7m]
 simp only[Q3g,sum0 hl]
 have e0:decide ((w.words_.length:Int)=0)=decide (w.words_.length=0):=decide_eq_decide.2 (by omega)
 have e1:decide ((w.cmd_.length:Int)=0)=decide (w.cmd_.length=0):=decide_eq_decide.2 (by omega)
 have e2:decide ((0:Int)<(w.words_.length:Int))=decide (0<w.words_.length):=decide_eq_decide.2 (by omega)
 have e3:decide ((1:Int)<(w.words_.length:Int))=decide (1<w.words_.length):=decide_eq_decide.2 (by omega)
 have hall:=X2d w184 rW w.words_ (by omega) hw
 rw[e0,e1,e2]
 cases decide (w.kind_=1)with
 | true=>rw[Q0e,Q0e,K1k w ht];rfl
 | false=>
   rw[Q0c,Q0c]
   cases(decide (w.kind_=2)||decide (w.kind_=3))with
   | true=>rw[Q0e,Q0e,J4d _ (by omega)];rfl
   | false=>
     rw[Q0c,Q0c]
     cases decide (w.kind_=7)with
     | true=>
       rw[Q0e,Q0e,J4d _ (by omega),Option.bind_some]
       exact Q3o fun _=>hall
     | false=>
       rw[Q0c,Q0c]
       cases decide (w.kind_=5)with
       | true=>
         rw[Q0e,Q0e]
         exact Q3o fun _=>hall
       | false=>
         rw[Q0c,Q0c]
         cases decide (w.kind_=6)with
         | true=>
           rw[Q0e,Q0e]
           exact Q3o fun _=>by rw[F30,up65 w101 w.cmd_ 4 (by omega) hc];rfl
         | false=>
           rw[Q0c,Q0c]
           cases decide (w.kind_=4)with
           | false=>rfl
           | true=>
             rw[Q0e,Q0e]
             rw[Q1t (body:=Z9d w w184) w.words_ (fun u _ k=>(some (!decide (u.kind_=4))).bind fun r=>bif !r then some false else k) _ (fun again i=>by
              rw[Z9d]
              congr 1
              congr 1
              funext u
              rw[Option.bind_some,Bool.not_not]) (by omega)]
             refine J0t (fun x=>!decide (x.kind_=4)) (fun u=>some (!decide (u.kind_=4))) ?_ w.words_ 0 (fun _ _=>rfl)
             rw[e1,e3]
             exact Q3o fun _=>hall
theorem Q3l:∀ {l:List Word} {w:Word},smWs l→w∈l→smW w
 | x::r,w,h,hm=>by
   rw[smWs]at h
   rcases List.mem_cons.1 hm with rfl|hm
   ·exact h.1
   exact Q3l h.2 hm
theorem Q0u:∀ {l:List Cmd} {w:Cmd},smCs l→w∈l→smC w
 | x::r,w,h,hm=>by
   rw[smCs]at h
   rcases List.mem_cons.1 hm with rfl|hm
   ·exact h.1
   exact Q0u h.2 hm
theorem Z3j:∀ {l:List Redir} {w:Redir},smRs l→w∈l→smR w
 | x::r,w,h,hm=>by
   rw[smRs]at h
   rcases List.mem_cons.1 hm with rfl|hm
   ·exact h.1
   exact Z3j h.2 hm
theorem J4w:∀n:Nat,(∀w:Word,nW w<n→nW w≤2000→smW w→K184 n w=some (rW w))∧(∀c:Cmd,nC c<n→nC c≤2000→smC c→K101 n c=some (rC c))
 | 0=>⟨fun _ h=>by omega,fun _ h=>by omega⟩
 | n+1=>by
   obtain⟨ihW,ihC⟩:=J4w n
   refine⟨fun w hn hb hs=>?_,fun c hn hb hs=>?_⟩
   ·show F184 (K101 n) (K184 n) w=_
    have h1:=Q3y w
    have h2:=Q2b w.words_
    have h3:=Q1e w.cmd_
    rw[Q4z]at hs
    exact K1t _ _ w (by omega) (by omega) (fun x hx=>ihW x (by have:=Q1f hx;omega) (by have:=Q1f hx;omega) (Q3l hs.2.2.1 hx)) (fun x hx=>ihC x (by have:=Q0l hx;omega) (by have:=Q0l hx;omega) (Q0u hs.2.2.2 hx))
   show F101 (K101 n) (K184 n) c=_
   have h1:=Q2c c
   have h2:=Q2b c.words_
   have h3:=Q1e c.kids_
   have h4:=Q6e c.redirs_
   rw[Q4m]at hs
   obtain⟨s1,s2,s3,s4,s5⟩:=hs
   refine K2f _ _ c (by omega) (by omega) (by omega) (fun x hx=>ihW x (by have:=Q1f hx;omega) (by have:=Q1f hx;omega) (Q3l s3 hx)) (fun x hx=>?_) (fun d hd=>?_) (fun x hx=>ihC x (by have:=Q0l hx;omega) (by have:=Q0l hx;omega) (Q0u s5 hx)) (fun k hk=>?_)
   ·have hx':=Q3l s3 hx
    rw[Q4z]at hx'
    refine⟨by omega,fun y hy=>?_⟩
    have hy':=Q3l hx'.2.2.1 hy
    rw[Q4z]at hy'
    omega
   ·have g1:=Q6x hd
    have g2:=Q8m d
    have g3:=Q3y d.word_
    have g4:=Q2b d.word_.words_
    have g5:=Q1e d.word_.cmd_
    have g6:=Z3j s4 hd
    rw[Z9p]at g6
    have g7:=g6
    rw[Q4z]at g7
    exact⟨ihW _ (by omega) (by omega) g6,by omega,by omega⟩
   have g1:=Q0l hk
   have g2:=Q2c k
   have g3:=Q2b k.words_
   have g4:=Q1e k.kids_
   have g5:=Q0u s5 hk
   rw[Q4m]at g5
   exact⟨by omega,by omega,fun x hx=>ihW x (by have:=Q1f hx;omega) (by have:=Q1f hx;omega) (Q3l g5.2.2.1 hx),fun x hx=>ihC x (by have:=Q0l hx;omega) (by have:=Q0l hx;omega) (Q0u g5.2.2.2.2 hx)⟩
theorem V4v(l:List Cmd)(hb:nCs l≤2000)(hs:smCs l):F14 l=some ((decide (szCs l≤1024)&&decide (dCs l≤32))&&l.all fun c=>lvl 4 c.kind_&&rC c):=by
 have hl:=Q1e l
 rw[F14,(J4u BIG).2 l (by unfold BIG;omega) hb,Option.bind_some]
 have e1:decide ((szCs l:Int)≤1024)=decide (szCs l≤1024):=decide_eq_decide.2 (by omega)
 rw[e1]
 cases decide (szCs l≤1024)with
 | false=>rfl
 | true=>
   rw[Q0g,(Z9x BIG).2 l (by unfold BIG;omega) hb,Option.bind_some,Bool.true_and]
   have e2:decide ((dCs l:Int)≤32)=decide (dCs l≤32):=decide_eq_decide.2 (by omega)
   rw[e2]
   exact Q3o fun _=>by
    rw[F30,up65 _ l 4 (by omega) (fun x hx=>(J4w BIG).2 x (by have:=Q0l hx;unfold BIG;omega) (by have:=Q0l hx;omega) (Q0u hs hx))]
    rfl
end Go.Abs.U48
namespace Go.Abs.U48
open Go Go.Proofs
def shpB(c:Cmd)(n w r:Bool):Bool:=(bif n then Q2z c.name_ else decide (c.name_=[]))&&((w||decide (c.words_.length=0))&&(r||decide (c.redirs_.length=0)))
theorem Z6r(c:Cmd)(n w r:Bool)(hn:c.name_.length≤1000000):F99 c (Shape.mk n w r)=some (shpB c n w r):=by
 rw[F99,X3f _ (by omega),Option.bind_some,shpB]
 have e0:decide ((c.words_.length:Int)=0)=decide (c.words_.length=0):=decide_eq_decide.2 (by omega)
 have e1:decide ((c.redirs_.length:Int)=0)=decide (c.redirs_.length=0):=decide_eq_decide.2 (by omega)
 rw[e0,e1]
 show(bif (!(n==Q2z c.name_)||(!n&&!decide (c.name_=[])))then some false else some ((w||decide (c.words_.length=0))&&(r||decide (c.redirs_.length=0))))=_
 cases n with
 | true=>
   cases Q2z c.name_<;>rfl
 | false=>
   by_cases h:c.name_=[]
   ·rw[h];rfl
   rw[decide_eq_false h]
   cases Q2z c.name_<;>rfl
section
variable (nm:Str)(w r n:Nat)
theorem r0:decide (0<r)=!decide (r=0):=by
 by_cases h:r=0
 ·rw[decide_eq_true h,decide_eq_false (by omega)];rfl
 rw[decide_eq_false h,decide_eq_true (by omega)];rfl
theorem shU(k:Int)(hk:k=3∨k=5∨k=6∨k=7∨k=8∨k=9∨k=11∨k=13∨k=14∨k=16∨k=17):Q1v k nm w r n=((decide (nm=[])&&decide (r=0)) &&
 (bif (decide (k=7)||(decide (k=13)||(decide (k=9)||decide (k=14))))then(decide (w=0)&&decide (n=1))
 else bif (decide (k=8)||(decide (k=11)||(decide (k=5)||decide (k=6))))then(decide (w=0)&&decide (n=2))
 else bif decide (k=3)then(decide (w=0)&&decide (2≤n))
 else bif decide (k=16)then(decide (0<w)&&decide (n=0))
 else decide (w=1))):=by
 rcases hk with rfl|rfl|rfl|rfl|rfl|rfl|rfl|rfl|rfl|rfl|rfl<;>(unfold Q1v;rw[r0];cases decide (nm=[])<;>cases decide (r=0)<;>rfl)
theorem sh1:Q1v 1 nm w r n=(decide (nm=[])&&(decide (0<w+r)&&decide (n=0))):=by
 unfold Q1v;rw[r0];cases decide (nm=[])<;>cases decide (r=0)<;>rfl
theorem sh12:Q1v 12 nm w r n=(decide (nm=[])&&decide (w=0)):=by
 unfold Q1v;rw[r0];cases decide (nm=[])<;>cases decide (r=0)<;>rfl
theorem sh2:Q1v 2 nm w r n=((Q2z nm&&decide (r=0))&&(decide (w=1)&&decide (n≤1))):=by
 unfold Q1v;rw[r0];cases Q2z nm<;>cases decide (r=0)<;>rfl
theorem sh10:Q1v 10 nm w r n=((Q2z nm&&decide (r=0))&&decide (n=1)):=by
 unfold Q1v;rw[r0];cases Q2z nm<;>cases decide (r=0)<;>rfl
theorem sh15:Q1v 15 nm w r n=((Q2z nm&&decide (r=0))&&decide (w=0)):=by
 unfold Q1v;rw[r0];cases Q2z nm<;>cases decide (r=0)<;>rfl
end
theorem all0{α:Type}(p:α→Bool)(l:List α):(decide (l.length=0)&&l.all p)=decide (l.length=0):=by
 cases l with
 | nil=>rfl
 | cons a l=>rw[show decide ((a::l).length=0)=false from decide_eq_false (by simp)];rfl
def oneB(ks:List Cmd):Bool:=match ks with
 | [u]=>lvl 1 u.kind_&&rC u
 | _=>false
theorem X0k(ks:List Cmd):(decide (ks.length=1)&&ks.all fun c=>lvl 1 c.kind_&&rC c)=oneB ks:=by
 rcases ks with _|⟨u,_|⟨v,r⟩⟩
 ·rfl
 ·rw[oneB,List.all_cons,List.all_nil,Bool.and_true];rfl
 rw[show decide ((u::v::r).length=1)=false from decide_eq_false (by simp)];rfl
theorem K3a(ks:List Cmd):(decide (ks.length≤1)&&ks.all fun c=>lvl 1 c.kind_&&rC c)=(decide (ks.length=0)||oneB ks):=by
 rcases ks with _|⟨u,_|⟨v,r⟩⟩
 ·rfl
 ·rw[oneB,List.all_cons,List.all_nil,Bool.and_true];rfl
 rw[show decide ((u::v::r).length≤1)=false from decide_eq_false (by simp)];rfl
theorem J1x(w98:Cmd→Option Bool)(l:List Cmd)(hl:l.length≤1000000)(h:∀c∈l,F64 w98 c=some (lvl 4 c.kind_&&rC c)):F29 w98 l=some (l.all fun c=>lvl 4 c.kind_&&rC c):=by
 rw[F29,J1v,J1p,Q1t (body:=Z8v l w98) l (fun u i k=>(F63 w98 u).bind fun r=>bif r then some i else k) (some (-1)) (fun _ _=>rfl) (by omega)]
 obtain⟨r,e1,e2⟩:=Q5e (fun c=>!(lvl 4 c.kind_&&rC c)) (F63 w98) l 0 (fun x hx=>by rw[F63,h x hx];rfl)
 rw[show((0:Nat):Int)=0 from rfl]at e1
 rw[e1,Option.bind_some,Option.bind_some,e2,List.any_eq_not_all_not]
 simp only[Bool.not_not]
theorem X5w(w182:Cmd→Option Bool)(l:List Cmd)(hl:l.length≤1000000)(h:∀c∈l,w182 c=some (lvl 1 c.kind_&&rC c)):J1u w182 l=some (!l.all fun c=>lvl 1 c.kind_&&rC c):=by
 rw[J1u,J3u,Q1t (body:=Z8u l w182) l (fun u i k=>(F183 w182 u).bind fun r=>bif r then some i else k) (some (-1)) (fun _ _=>rfl) (by omega)]
 obtain⟨r,e1,e2⟩:=Q5e (fun c=>!(lvl 1 c.kind_&&rC c)) (F183 w182) l 0 (fun x hx=>by rw[F183,h x hx];rfl)
 rw[show((0:Nat):Int)=0 from rfl]at e1
 rw[e1,Option.bind_some,e2,List.any_eq_not_all_not]
 simp only[Bool.not_not]
theorem X2y(w260:Word→Option Bool)(l:List Word)(hl:l.length≤1000000)(h:∀c∈l,w260 c=some (!decide (c.kind_=4)&&rW c)):Z2g w260 l=some (!l.all fun c=>!decide (c.kind_=4)&&rW c):=by
 rw[Z2g,Z5d,Q1t (body:=Z5c l w260) l (fun u i k=>(F261 w260 u).bind fun r=>bif r then some i else k) (some (-1)) (fun _ _=>rfl) (by omega)]
 obtain⟨r,e1,e2⟩:=Q5e (fun c:Word=>!(!decide (c.kind_=4)&&rW c)) (F261 w260) l 0 (fun x hx=>by rw[F261,h x hx];rfl)
 rw[show((0:Nat):Int)=0 from rfl]at e1
 rw[e1,Option.bind_some,e2,List.any_eq_not_all_not]
 simp only[Bool.not_not]
theorem Z9a(w260:Word→Option Bool)(l:List Word)(hl:l.length≤1000000)(h:∀c∈l,F234 w260 c=some (rW c)):F207 w260 l=some (l.all rW):=by
 rw[F207,F232,F259,Q1t (body:=J3y l w260) l (fun u i k=>(F233 w260 u).bind fun r=>bif r then some i else k) (some (-1)) (fun _ _=>rfl) (by omega)]
 obtain⟨r,e1,e2⟩:=Q5e (fun c=>!rW c) (F233 w260) l 0 (fun x hx=>by rw[F233,h x hx];rfl)
 rw[show((0:Nat):Int)=0 from rfl]at e1
 rw[e1,Option.bind_some,Option.bind_some,e2,List.any_eq_not_all_not]
 simp only[Bool.not_not]
theorem X3c(w260:Word→Option Bool)(l:List Redir)(hl:l.length≤1000000)(h:∀c∈l,F237 w260 c=some (rR c)):F209 w260 l=some (l.all rR):=by
 rw[F209,F235,F262,Q1t (body:=J3x l w260) l (fun u i k=>(F236 w260 u).bind fun r=>bif r then some i else k) (some (-1)) (fun _ _=>rfl) (by omega)]
 obtain⟨r,e1,e2⟩:=Q5e (fun c=>!rR c) (F236 w260) l 0 (fun x hx=>by rw[F236,h x hx];rfl)
 rw[show((0:Nat):Int)=0 from rfl]at e1
 rw[e1,Option.bind_some,Option.bind_some,e2,List.any_eq_not_all_not]
 simp only[Bool.not_not]
theorem X5v(w98:Cmd→Option Bool)(w260:Word→Option Bool)(l:List Cmd)(hl:l.length≤1000000)(h:∀c∈l,F212 w98 w260 c=some (Q7w c)):J1t w98 w260 l=some (!l.all Q7w):=by
 rw[J1t,J3t,Q1t (body:=Z8t l w98 w260) l (fun u i k=>(F211 w98 w260 u).bind fun r=>bif r then some i else k) (some (-1)) (fun _ _=>rfl) (by omega)]
 obtain⟨r,e1,e2⟩:=Q5e (fun c=>!Q7w c) (F211 w98 w260) l 0 (fun x hx=>by rw[F211,h x hx];rfl)
 rw[show((0:Nat):Int)=0 from rfl]at e1
 rw[e1,Option.bind_some,e2,List.any_eq_not_all_not]
 simp only[Bool.not_not]
theorem K1o(w182:Cmd→Option Bool)(l:List Cmd)(h:∀c∈l,w182 c=some (lvl 1 c.kind_&&rC c)):F208 w182 l=some (oneB l):=by
 rw[F208]
 rcases l with _|⟨u,_|⟨v,r⟩⟩
 ·rfl
 ·show(some u).bind _=_
  rw[Option.bind_some]
  show(w182 u).bind _=_
  rw[h u (by simp)]
  rfl
 rw[show decide (((u::v::r).length:Int)=1)=false from decide_eq_false (by simp;omega)]
 rfl
theorem K1f(w:Word):F264 w=some (J8c w):=by
 rw[F264,J8c]
 have e0:decide ((w.words_.length:Int)=0)=decide (w.words_.length=0):=decide_eq_decide.2 (by omega)
 have e1:decide ((w.cmd_.length:Int)=0)=decide (w.cmd_.length=0):=decide_eq_decide.2 (by omega)
 have e2:decide (w.words_.length+w.cmd_.length=0)=(decide (w.words_.length=0)&&decide (w.cmd_.length=0)):=by
  rw[←Bool.decide_and]
  exact decide_eq_decide.2 (by omega)
 rw[e0,e1,e2,Bool.and_assoc]
theorem K2e(t:Str)(hl:t.length≤1000000):F108 t [10]=some (J0u t):=by
 rw[F108,F155]
 cases ht:t with
 | nil=>rfl
 | cons a s=>
   rw[←ht]
   have hp:0<t.length:=by rw[ht];simp
   have e:decide (((([10]:Str).length:Nat):Int)≤(t.length:Int))=true:=decide_eq_true (by simp;omega)
   rw[e,Q0g,Q0r (by simp;omega) (by simp;omega),Q1o,if_pos (by simp;omega),Option.bind_some,Option.bind_some,Bool.true_and]
   rw[J0u]
   congr 1
   refine decide_eq_decide.2 ?_
   rw[show((t.length:Int)-((([10]:Str).length:Nat):Int)).toNat=t.length-1 by first|(simp;done)|(simp;omega),show((t.length:Int)).toNat-(t.length-1)=1 by first|(simp;done)|(simp;omega)]
   rw[List.getLast?_eq_getElem?,Q0y (show t.length-1<t.length by omega),List.getElem?_eq_getElem (by omega),List.take_succ_cons,List.take_zero]
   simp
theorem X6p:∀ (q:Str) (n:Nat),((decide (n=q.length)&&q.all mkB)&&!q.contains 49)=decide (q=List.replicate n 48)
 | [],0=>rfl
 | [],n+1=>by simp[List.replicate]
 | a::q,0=>by simp
 | a::q,n+1=>by
   have ih:=X6p q n
   have e:decide (n+1=(a::q).length)=decide (n=q.length):=decide_eq_decide.2 (by simp)
   rw[e,List.all_cons,List.contains_cons,List.replicate_succ]
   by_cases h:a=48
   ·subst h
    have:decide ((48:UInt8)::q=48::List.replicate n 48)=decide (q=List.replicate n 48):=decide_eq_decide.2 (by simp)
    rw[this,←ih]
    rfl
   have:decide (a::q=48::List.replicate n 48)=false:=decide_eq_false (by simp[h])
   rw[this]
   by_cases h2:a=49
   ·subst h2
    cases decide (n=q.length)<;>cases q.all mkB<;>rfl
   have hm:mkB a=false:=by
    have g1:=Q5o a 48
    have g2:=Q5o a 49
    rw[mkB,B]
    rw[show(48:Int)=(((48:UInt8).toNat:Nat):Int) from rfl,show(49:Int)=(((49:UInt8).toNat:Nat):Int) from rfl,g1,g2,decide_eq_false h,decide_eq_false h2]
    rfl
   rw[hm]
   cases decide (n=q.length)<;>rfl
theorem K1i(w260:Word→Option Bool)(d:Redir)(hw:F234 w260 d.word_=some (rW d.word_))(h2:d.word_.text_.length≤1000000)(h3:d.word_.quoted_.length≤1000000):F237 w260 d=some (rR d):=by
 rw[F237,X0a]
 simp only[Q3g]
 have e0:(((((decide (d.fd_<0)||decide (64≤d.fd_))||decide (d.from_<0))||decide (64≤d.from_))||(!decide (d.kind_=4)&&d.raw_))||(!decide (d.kind_=5)&&!decide (d.from_=0)))=(((((decide (d.fd_<0)||decide (64≤d.fd_))||decide (d.from_<0))||decide (64≤d.from_))||(!decide (d.kind_=5)&&!decide (d.from_=0)))||(!decide (d.kind_=4)&&d.raw_)):=by
  rw[Bool.or_assoc,Bool.or_comm (!decide (d.kind_=4)&&d.raw_),←Bool.or_assoc]
 rw[e0]
 cases((((((decide (d.fd_<0)||decide (64≤d.fd_))||decide (d.from_<0))||decide (64≤d.from_))||(!decide (d.kind_=5)&&!decide (d.from_=0)))||(!decide (d.kind_=4)&&d.raw_)))with
 | true=>rfl
 | false=>
   rw[Q0c,Q0c]
   cases(decide (d.kind_=1)||(decide (d.kind_=2)||decide (d.kind_=3)))with
   | true=>rw[Q0e,Q0e,hw];rfl
   | false=>
     rw[Q0c,Q0c]
     by_cases h4:d.kind_=4
     ·have h56:(decide (d.kind_=5)||decide (d.kind_=6))=false:=by rw[h4];rfl
      rw[decide_eq_true h4,Q0e,h56,Q0c,Q0e,J3a]
      have hg:∀b:Bool,Q0d b (F108 d.word_.text_ [10])=some (b&&J0u d.word_.text_):=fun b=>by
       cases b
       ·rfl
       rw[Q0g,K2e _ h2,Bool.true_and]
      rw[hg,Option.bind_some]
      have i0:decide ((d.word_.words_.length:Int)=0)=decide (d.word_.words_.length=0):=decide_eq_decide.2 (by omega)
      have i1:decide ((d.word_.cmd_.length:Int)=0)=decide (d.word_.cmd_.length=0):=decide_eq_decide.2 (by omega)
      have i2:decide (d.word_.words_.length+d.word_.cmd_.length=0)=(decide (d.word_.words_.length=0)&&decide (d.word_.cmd_.length=0)):=by
       rw[←Bool.decide_and]
       exact decide_eq_decide.2 (by omega)
      rw[i0,i1,i2,←X6p]
      cases(decide (d.fd_=0)&&decide (d.word_.kind_=1))with
      | false=>rfl
      | true=>
        rw[Bool.true_and,Bool.true_and]
        cases decide (d.word_.words_.length=0)with
        | false=>
          cases(((decide (d.word_.text_.length=d.word_.quoted_.length)&&d.word_.quoted_.all mkB)&&!d.word_.quoted_.contains 49))<;>rfl
        | true=>
          rw[Bool.true_and]
          cases decide (d.word_.cmd_.length=0)with
          | false=>
            cases(((decide (d.word_.text_.length=d.word_.quoted_.length)&&d.word_.quoted_.all mkB)&&!d.word_.quoted_.contains 49))<;>rfl
          | true=>
            rw[Q0g,X2w _ h3,Option.bind_some,Bool.true_and,Bool.and_true]
            cases(decide (d.word_.text_.length=d.word_.quoted_.length)&&d.word_.quoted_.all mkB)with
            | false=>rfl
            | true=>
              rw[Q0g,Q8h,Option.bind_some,X1b,Bool.true_and]
              cases d.word_.quoted_.contains 49<;>cases decide (d.word_.text_=[])<;>cases J0u d.word_.text_<;>rfl
     rw[decide_eq_false h4,Q0c]
     cases(decide (d.kind_=5)||decide (d.kind_=6))with
     | true=>rw[Q0e,Q0e,K1f];rfl
     | false=>rfl
theorem K1j(w260:Word→Option Bool)(w:Word)(hl:w.words_.length≤1000000)(h0:w260 w=some (!decide (w.kind_=4)&&rW w))(h:∀x∈w.words_,w260 x=some (!decide (x.kind_=4)&&rW x)):F234 w260 w=some (rW w):=by
 rw[F234]
 by_cases h4:w.kind_=4
 ·rw[decide_eq_true h4,Bool.not_true,Q0c,J7m,h4]
  show _=some ((w.words_.all fun x=>!decide (x.kind_=4))&&((((decide (w.text_=[])&&decide (w.quoted_=[]))&&decide (1<w.words_.length))&&decide (w.cmd_.length=0))&&w.words_.all rW))
  have i1:decide ((w.cmd_.length:Int)=0)=decide (w.cmd_.length=0):=decide_eq_decide.2 (by omega)
  have i2:decide (2≤(w.words_.length:Int))=decide (1<w.words_.length):=decide_eq_decide.2 (by omega)
  rw[i1,i2,X2y w260 _ hl h,J3m]
  cases decide (w.text_=[])<;>cases decide (w.quoted_=[])<;>cases decide (w.cmd_.length=0)<;>cases decide (1<w.words_.length)<;>cases(w.words_.all fun x=>!decide (x.kind_=4))<;>cases w.words_.all rW<;>rfl
 rw[decide_eq_false h4,Bool.not_false,Q0e,h0,decide_eq_false h4]
 rfl
theorem V6g{k:Int}(h:k≠14):lvl 4 k=lvl 3 k:=by
 rw[lvl,lvl,lev,decide_eq_false h]
 generalize (decide (k=1)||(decide (k=2)||(decide (k=7)||(decide (k=8)||(decide (k=9)||(decide (k=10)||(decide (k=11)||(decide (k=12)||(decide (k=13)||(decide (k=15)||(decide (k=16)||decide (k=17))))))))))))=a
 generalize decide (k=3)=b
 generalize (decide (k=5)||decide (k=6))=c
 cases a<;>cases b<;>cases c<;>rfl
theorem V6h{k:Int}(h:(decide (k=5)||decide (k=6))=false):lvl 3 k=lvl 2 k:=by
 rw[lvl,lvl,lev,h]
 generalize (decide (k=1)||(decide (k=2)||(decide (k=7)||(decide (k=8)||(decide (k=9)||(decide (k=10)||(decide (k=11)||(decide (k=12)||(decide (k=13)||(decide (k=15)||(decide (k=16)||decide (k=17))))))))))))=a
 generalize decide (k=3)=b
 generalize decide (k=14)=c
 cases a<;>cases b<;>cases c<;>rfl
theorem V6i{k:Int}(h:k≠3):lvl 2 k=lvl 1 k:=by
 rw[lvl,lvl,lev,decide_eq_false h]
 generalize (decide (k=1)||(decide (k=2)||(decide (k=7)||(decide (k=8)||(decide (k=9)||(decide (k=10)||(decide (k=11)||(decide (k=12)||(decide (k=13)||(decide (k=15)||(decide (k=16)||decide (k=17))))))))))))=a
 generalize decide (k=14)=b
 generalize (decide (k=5)||decide (k=6))=c
 cases a<;>cases b<;>cases c<;>rfl
theorem Z5o{N r0 w0 X A R P:Bool}(ha:(w0&&A)=w0)(hr:(r0&&R)=r0):(((((N&&r0)&&(w0&&X))&&A)&&R)&&P)=((N&&((false||w0)&&(false||r0)))&&(X&&P)):=by
 revert ha hr
 cases N<;>cases r0<;>cases w0<;>cases X<;>cases A<;>cases R<;>cases P<;>decide
theorem X5e{N r0 w0 Y A R P:Bool}(hr:(r0&&R)=r0):(((((N&&r0)&&Y)&&A)&&R)&&P)=((((N&&((true||w0)&&(false||r0)))&&Y)&&A)&&P):=by
 revert hr
 cases N<;>cases r0<;>cases w0<;>cases Y<;>cases A<;>cases R<;>cases P<;>decide
section
variable (c:Cmd)
theorem V5j(hk:c.kind_=14):rC c=(shpB c false false false&&(decide (c.kids_.length=1)&&c.kids_.all fun c=>lvl 3 c.kind_&&rC c)):=by
 rw[Q6c,hk,shU _ _ _ _ 14 (by decide),shpB]
 exact Z5o (all0 _ _) (all0 _ _)
theorem V5f(hk:c.kind_=5∨c.kind_=6):rC c=(shpB c false false false&&(decide (c.kids_.length=2)&&rAnd c.kids_)):=by
 rcases hk with hk|hk
 ·rw[Q6c,hk,shU _ _ _ _ 5 (by decide),shpB]
  exact Z5o (all0 _ _) (all0 _ _)
 rw[Q6c,hk,shU _ _ _ _ 6 (by decide),shpB]
 exact Z5o (all0 _ _) (all0 _ _)
theorem rC_3(hk:c.kind_=3):rC c=(shpB c false false false&&(decide (2≤c.kids_.length)&&c.kids_.all fun c=>lvl 1 c.kind_&&rC c)):=by
 rw[Q6c,hk,shU _ _ _ _ 3 (by decide),shpB]
 exact Z5o (all0 _ _) (all0 _ _)
theorem K2s(hk:c.kind_=8∨c.kind_=11):rC c=(shpB c false false false&&(decide (c.kids_.length=2)&&rIf c.kids_)):=by
 rcases hk with hk|hk
 ·rw[Q6c,hk,shU _ _ _ _ 8 (by decide),shpB]
  exact Z5o (all0 _ _) (all0 _ _)
 rw[Q6c,hk,shU _ _ _ _ 11 (by decide),shpB]
 exact Z5o (all0 _ _) (all0 _ _)
theorem rC_7(hk:c.kind_=7∨c.kind_=13∨c.kind_=9):rC c=(shpB c false false false&&oneB c.kids_):=by
 rw[←X0k]
 rcases hk with hk|hk|hk
 ·rw[Q6c,hk,shU _ _ _ _ 7 (by decide),shpB]
  exact Z5o (all0 _ _) (all0 _ _)
 ·rw[Q6c,hk,shU _ _ _ _ 13 (by decide),shpB]
  exact Z5o (all0 _ _) (all0 _ _)
 rw[Q6c,hk,shU _ _ _ _ 9 (by decide),shpB]
 exact Z5o (all0 _ _) (all0 _ _)
theorem rC_2(hk:c.kind_=2):rC c=(((shpB c true true false&&decide (c.words_.length=1))&&c.words_.all rW)&&(decide (c.kids_.length=0)||oneB c.kids_)):=by
 rw[←K3a,Q6c,hk,sh2,shpB,←Bool.and_assoc (Q2z c.name_&&_)]
 have h:=X5e (N:=Q2z c.name_) (w0:=decide (c.words_.length=0)) (Y:=decide (c.words_.length=1)&&decide (c.kids_.length≤1)) (A:=c.words_.all rW) (P:=c.kids_.all fun c=>lvl 1 c.kind_&&rC c) (all0 rR c.redirs_)
 show(((((Q2z c.name_&&decide (c.redirs_.length=0))&&decide (c.words_.length=1))&&decide (c.kids_.length≤1))&&c.words_.all rW)&&c.redirs_.all rR&&c.kids_.all fun c=>lvl 1 c.kind_&&rC c)=_
 rw[Bool.and_assoc (Q2z c.name_&&decide (c.redirs_.length=0)),h]
 show _=((((Q2z c.name_&&_)&&decide (c.words_.length=1))&&c.words_.all rW)&&_)
 cases decide (c.words_.length=1)<;>cases decide (c.kids_.length≤1)<;>cases c.words_.all rW<;>simp
theorem V5k(hk:c.kind_=10):rC c=((shpB c true true false&&c.words_.all rW)&&oneB c.kids_):=by
 rw[←X0k,Q6c,hk,sh10,shpB]
 have h:=X5e (N:=Q2z c.name_) (w0:=decide (c.words_.length=0)) (Y:=decide (c.kids_.length=1)) (A:=c.words_.all rW) (P:=c.kids_.all fun c=>lvl 1 c.kind_&&rC c) (all0 rR c.redirs_)
 refine h.trans ?_
 show _=(((Q2z c.name_&&_)&&c.words_.all rW)&&_)
 cases decide (c.kids_.length=1)<;>cases c.words_.all rW<;>simp
theorem V5g(hk:c.kind_=17):rC c=(((shpB c false true false&&decide (c.words_.length=1))&&c.words_.all rW)&&c.kids_.all Q7w):=by
 rw[Q6c,hk,shU _ _ _ _ 17 (by decide),shpB]
 exact X5e (N:=decide (c.name_=[])) (w0:=decide (c.words_.length=0)) (Y:=decide (c.words_.length=1)) (all0 rR c.redirs_)
theorem V5i(hk:c.kind_=15):rC c=(shpB c true false false&&c.kids_.all fun c=>lvl 4 c.kind_&&rC c):=by
 rw[Q6c,hk,sh15,shpB]
 have h:=Z5o (N:=Q2z c.name_) (X:=true) (P:=c.kids_.all fun c=>lvl 4 c.kind_&&rC c) (all0 rW c.words_) (all0 rR c.redirs_)
 rw[Bool.and_true,Bool.true_and]at h
 exact h
theorem K2t(hk:c.kind_=12):rC c=((shpB c false false true&&c.kids_.all fun c=>lvl 4 c.kind_&&rC c)&&c.redirs_.all rR):=by
 rw[Q6c,hk,sh12,shpB]
 show((((decide (c.name_=[])&&decide (c.words_.length=0))&&c.words_.all rW)&&c.redirs_.all rR)&&c.kids_.all fun c=>lvl 4 c.kind_&&rC c)=((decide (c.name_=[])&&((false||decide (c.words_.length=0))&&true)&&c.kids_.all fun c=>lvl 4 c.kind_&&rC c)&&c.redirs_.all rR)
 have h:=all0 rW c.words_
 rw[Bool.and_assoc (decide (c.name_=[])),h]
 cases decide (c.name_=[])<;>cases decide (c.words_.length=0)<;>cases c.redirs_.all rR<;>cases(c.kids_.all fun c=>lvl 4 c.kind_&&rC c)<;>rfl
theorem V5h(hk:c.kind_=16):rC c=(((shpB c false true false&&decide (0<c.words_.length))&&decide (c.kids_.length=0))&&c.words_.all rW):=by
 rw[Q6c,hk,shU _ _ _ _ 16 (by decide),shpB]
 have h:=X5e (N:=decide (c.name_=[])) (w0:=decide (c.words_.length=0)) (Y:=decide (0<c.words_.length)&&decide (c.kids_.length=0)) (A:=c.words_.all rW) (P:=c.kids_.all fun c=>lvl 1 c.kind_&&rC c) (all0 rR c.redirs_)
 refine h.trans ?_
 have h2:=all0 (fun c:Cmd=>lvl 1 c.kind_&&rC c) c.kids_
 revert h2
 show _→_=(((decide (c.name_=[])&&_)&&_&&_)&&_)
 cases decide (0<c.words_.length)<;>cases decide (c.kids_.length=0)<;>cases c.words_.all rW<;>cases(c.kids_.all fun c=>lvl 1 c.kind_&&rC c)<;>simp
theorem rC_1(hk:c.kind_=1):rC c=((decide (c.name_=[])&&decide (c.kids_.length=0))&&(((decide (0<c.words_.length+c.redirs_.length)&&c.words_.all rW)&&c.redirs_.all rR)&&(decide (c.words_.length=0)||!Q9q c.words_))):=by
 rw[Q6c,hk,sh1]
 show((((decide (c.name_=[])&&(decide (0<c.words_.length+c.redirs_.length)&&decide (c.kids_.length=0)))&&c.words_.all rW)&&c.redirs_.all rR)&&(decide (c.words_.length=0)||!Q9q c.words_))=_
 cases decide (c.name_=[])<;>cases decide (c.kids_.length=0)<;>cases decide (0<c.words_.length+c.redirs_.length)<;>cases c.words_.all rW<;>cases c.redirs_.all rR<;>cases(decide (c.words_.length=0)||!Q9q c.words_)<;>rfl
end
theorem X7x(w98:Cmd→Option Bool)(c:Cmd)(hn:c.name_.length≤1000000)(h0:w98 c=some (lvl 3 c.kind_&&rC c))(h:∀x∈c.kids_,w98 x=some (lvl 3 x.kind_&&rC x)):F64 w98 c=some (lvl 4 c.kind_&&rC c):=by
 rw[F64]
 by_cases hk:c.kind_=14
 ·rw[decide_eq_true hk,Bool.not_true,Q0c,Z6r _ _ _ _ hn,Option.bind_some,V5j c hk,hk]
  show _=some (true&&_)
  rw[Bool.true_and]
  cases shpB c false false false with
  | false=>rfl
  | true=>
    rw[Bool.true_and]
    rcases hx:c.kids_ with _|⟨u,_|⟨v,r⟩⟩
    ·rfl
    ·rw[hx]at h
     show(some u).bind _=_
     rw[Option.bind_some]
     show(w98 u).bind _=_
     rw[h u (by simp),List.all_cons,List.all_nil,Bool.and_true]
     rfl
    rw[show decide (((u::v::r).length:Int)=1)=false from decide_eq_false (by simp;omega),show decide ((u::v::r).length=1)=false from decide_eq_false (by simp)]
    rfl
 rw[decide_eq_false hk,Bool.not_false,Q0e,h0,V6g hk]
 rfl
theorem X3g(w182:Cmd→Option Bool)(c:Cmd)(hn:c.name_.length≤1000000)(hl:c.kids_.length≤1000000)(h0:w182 c=some (lvl 1 c.kind_&&rC c))(h:∀x∈c.kids_,w182 x=some (lvl 1 x.kind_&&rC x)):F143 w182 c=some (lvl 2 c.kind_&&rC c):=by
 rw[F143]
 by_cases hk:c.kind_=3
 ·rw[decide_eq_true hk,Bool.not_true,Q0c,Z6r _ _ _ _ hn,Option.bind_some,rC_3 c hk,hk]
  show _=some (true&&_)
  have e:decide (2≤(c.kids_.length:Int))=decide (2≤c.kids_.length):=decide_eq_decide.2 (by omega)
  rw[Bool.true_and,e,X5w w182 _ hl h]
  cases shpB c false false false<;>cases decide (2≤c.kids_.length)<;>cases(c.kids_.all fun c=>lvl 1 c.kind_&&rC c)<;>rfl
 rw[decide_eq_false hk,Bool.not_false,Q0e,h0,V6i hk]
 rfl
theorem V4r(w98 w182:Cmd→Option Bool)(c:Cmd)(hn:c.name_.length≤1000000)(hl:c.kids_.length≤1000000)(h0:w182 c=some (lvl 1 c.kind_&&rC c))(h:∀x∈c.kids_,w182 x=some (lvl 1 x.kind_&&rC x))(h98:∀x∈c.kids_,w98 x=some (lvl 3 x.kind_&&rC x))
 (hk2:∀x∈c.kids_,x.name_.length≤1000000∧x.kids_.length≤1000000∧∀y∈x.kids_,w182 y=some (lvl 1 y.kind_&&rC y)):F98 w98 w182 c=some (lvl 3 c.kind_&&rC c):=by
 rw[F98]
 cases hk:(decide (c.kind_=5)||decide (c.kind_=6))with
 | false=>
   have:(!decide (c.kind_=5)&&!decide (c.kind_=6))=true:=by rw[←Bool.not_or,hk];rfl
   rw[this,Q0e,X3g w182 c hn hl h0 h,V6h hk]
   rfl
 | true=>
   have:(!decide (c.kind_=5)&&!decide (c.kind_=6))=false:=by rw[←Bool.not_or,hk];rfl
   rw[this,Q0c,Z6r _ _ _ _ hn,Option.bind_some]
   simp only[Bool.or_eq_true,decide_eq_true_eq]at hk
   rw[V5f c hk]
   have hl3:lvl 3 c.kind_=true:=by rcases hk with hk|hk<;>(rw[hk];rfl)
   rw[hl3,Bool.true_and]
   cases shpB c false false false with
   | false=>rfl
   | true=>
     rw[Bool.true_and,Bool.true_and]
     by_cases h2:c.kids_.length=2
     ·obtain⟨a,b,e⟩:=two h2
      rw[e]at h h98 hk2 ⊢
      show(some a).bind _=some (true&&rAnd [a,b])
      rw[Option.bind_some]
      show(w98 a).bind _=_
      rw[h98 a (by simp),Option.bind_some,rAnd,Q4b,List.all_cons,List.all_nil,Bool.and_true]
      cases(lvl 3 a.kind_&&rC a)with
      | false=>rfl
      | true=>
        show(some b).bind _=_
        rw[Option.bind_some]
        show(F143 w182 b).bind _=_
        have hb:=hk2 b (by simp)
        rw[X3g w182 b hb.1 hb.2.1 (h b (by simp)) hb.2.2]
        rfl
     have e:decide ((c.kids_.length:Int)=2)=false:=decide_eq_false (by omega)
     rw[e,decide_eq_false h2]
     rfl
theorem K1g(w98:Cmd→Option Bool)(w260:Word→Option Bool)(w:Word)(ht:w.text_.length≤1000000)(hq:w.quoted_.length≤1000000)(hl:w.words_.length+w.cmd_.length≤1000000)(hw:∀x∈w.words_,F234 w260 x=some (rW x))(hc:∀x∈w.cmd_,F64 w98 x=some (lvl 4 x.kind_&&rC x)):
 F260 w98 w260 w=some (!decide (w.kind_=4)&&rW w):=by
 rw[F260,X3f _ (by omega),Option.bind_some,J7m]
 have i0:decide ((w.words_.length:Int)=0)=decide (w.words_.length=0):=decide_eq_decide.2 (by omega)
 have i1:decide ((w.cmd_.length:Int)=0)=decide (w.cmd_.length=0):=decide_eq_decide.2 (by omega)
 have i2:decide (w.words_.length+w.cmd_.length=0)=(decide (w.words_.length=0)&&decide (w.cmd_.length=0)):=by
  rw[←Bool.decide_and]
  exact decide_eq_decide.2 (by omega)
 have i3:decide (1≤(w.words_.length:Int))=decide (0<w.words_.length):=decide_eq_decide.2 (by omega)
 rw[i0,i1,i2,i3,K1e w hq,Z9a w260 w.words_ (by omega) hw,J1x w98 w.cmd_ (by omega) hc]
 simp only[Q3g]
 by_cases h1:w.kind_=1
 ·rw[h1]
  show _=some (Z5i w.text_ w.quoted_&&_)
  cases decide (w.words_.length=0)<;>cases decide (w.cmd_.length=0)<;>cases Z5i w.text_ w.quoted_<;>rfl
 rw[decide_eq_false h1,Q0c,Q0c]
 cases h23:(decide (w.kind_=2)||decide (w.kind_=3))with
 | true=>
   have h4:decide (w.kind_=4)=false:=by
    simp only[Bool.or_eq_true,decide_eq_true_eq]at h23
    exact decide_eq_false (by omega)
   rw[Q0e,Q0e,h4]
   cases decide (w.words_.length=0)<;>cases decide (w.cmd_.length=0)<;>cases Q2z w.text_<;>cases decide (w.quoted_=[])<;>rfl
 | false=>
   rw[Q0c,Q0c]
   by_cases h7:w.kind_=7
   ·rw[h7]
    show _=some ((((Q2z w.text_&&decide (w.quoted_=[]))&&decide (0<w.words_.length))&&decide (w.cmd_.length=0))&&w.words_.all rW)
    cases decide (0<w.words_.length)<;>cases decide (w.cmd_.length=0)<;>cases Q2z w.text_<;>cases decide (w.quoted_=[])<;>cases w.words_.all rW<;>rfl
   rw[decide_eq_false h7,Q0c,Q0c]
   by_cases h5:w.kind_=5
   ·rw[h5]
    show _=some (((decide (w.text_=[])&&decide (w.quoted_=[]))&&decide (w.cmd_.length=0))&&w.words_.all rW)
    cases decide (w.cmd_.length=0)<;>cases decide (w.text_=[])<;>cases decide (w.quoted_=[])<;>cases w.words_.all rW<;>rfl
   rw[decide_eq_false h5,Q0c,Q0c]
   by_cases h6:w.kind_=6
   ·rw[h6]
    show _=some (((decide (w.text_=[])&&decide (w.quoted_=[]))&&decide (w.words_.length=0))&&w.cmd_.all fun c=>lvl 4 c.kind_&&rC c)
    cases decide (w.words_.length=0)<;>cases decide (w.text_=[])<;>cases decide (w.quoted_=[])<;>cases(w.cmd_.all fun c=>lvl 4 c.kind_&&rC c)<;>rfl
   rw[decide_eq_false h6,Q0c,Q0c]
   cases decide (w.kind_=4)<;>rfl
end Go.Abs.U48
namespace Go.Abs.U48
open Go Go.Proofs
theorem K1n(w98:Cmd→Option Bool)(c:Cmd)(hn:c.name_.length≤1000000)(hl:c.kids_.length≤1000000)(h:∀x∈c.kids_,F64 w98 x=some (lvl 4 x.kind_&&rC x)):F210 w98 c=some ((decide (c.kind_=12)&&decide (c.redirs_.length=0))&&rC c):=by
 rw[F210]
 by_cases hk:c.kind_=12
 ·rw[decide_eq_true hk,Q0g,Z6r _ _ _ _ hn,Option.bind_some,Bool.true_and,Bool.true_and,K2t c hk]
  have e:shpB c false false false=(decide (c.redirs_.length=0)&&shpB c false false true):=by
   rw[shpB,shpB]
   cases decide (c.name_=[])<;>cases decide (c.words_.length=0)<;>cases decide (c.redirs_.length=0)<;>rfl
  rw[e]
  cases hr:decide (c.redirs_.length=0)with
  | false=>rfl
  | true=>
    have:c.redirs_.all rR=true:=by
     rw[List.eq_nil_of_length_eq_zero (of_decide_eq_true hr)];rfl
    rw[this,Bool.and_true,Bool.true_and,Bool.true_and]
    exact Q3o fun _=>J1x w98 _ hl h
 rw[decide_eq_false hk]
 rfl
theorem K1m(w98:Cmd→Option Bool)(w260:Word→Option Bool)(c:Cmd)(hn:c.name_.length≤1000000)(hl:c.kids_.length≤1000000)(hl2:c.words_.length≤1000000)(h:∀x∈c.kids_,F64 w98 x=some (lvl 4 x.kind_&&rC x))(hw:∀x∈c.words_,F234 w260 x=some (rW x)):F212 w98 w260 c=some (Q7w c):=by
 rw[F212,Z7q]
 cases decide (c.kind_=18)with
 | false=>rfl
 | true=>
   rw[Q0g,Z6r _ _ _ _ hn,Option.bind_some,Bool.true_and,Bool.true_and,Z9a w260 _ hl2 hw,J1x w98 _ hl h]
   have e:shpB c false true false=(decide (c.name_=[])&&decide (c.redirs_.length=0)):=by
    rw[shpB]
    cases decide (c.name_=[])<;>cases decide (c.words_.length=0)<;>cases decide (c.redirs_.length=0)<;>rfl
   have i3:decide (1≤(c.words_.length:Int))=!decide (c.words_.length=0):=by
    by_cases h:c.words_.length=0
    ·rw[decide_eq_true h,decide_eq_false (by omega)];rfl
    rw[decide_eq_false h,decide_eq_true (by omega)];rfl
   rw[e,i3]
   cases decide (c.name_=[])<;>cases decide (c.redirs_.length=0)<;>cases decide (c.words_.length=0)<;>cases c.words_.all rW<;>cases(c.kids_.all fun c=>lvl 4 c.kind_&&rC c)<;>rfl
theorem Z7a(k:Int)(t q:Str)(ws:List Word)(cs:List Cmd)(ht:t.length≤1000000):Z0v (k,t,q,ws,cs)=some (!((decide (k=1)&&keyB t)&&!Q6f q)):=by
 rw[Z0v]
 cases decide (k=1)with
 | false=>rfl
 | true=>
   rw[Q0g,Q8h,Option.bind_some,X1b,Bool.true_and,Bool.true_and]
   rw[show q.contains 49=Q6f q from rfl]
   cases Q6f q with
   | true=>
     show some _=_
     cases keyB t<;>rfl
   | false=>
     rw[Bool.not_false,Q0g,K2b _ (by omega),Option.bind_some,Bool.true_and,X9k,Bool.and_true]
theorem K1l(w260:Word→Option Bool)(c:Cmd)(hl:c.words_.length+c.redirs_.length≤1000000)(hw:∀x∈c.words_,F234 w260 x=some (rW x))(hr:∀x∈c.redirs_,F237 w260 x=some (rR x))(ht:∀x∈c.words_,x.text_.length≤1000000∧∀y∈x.words_,y.text_.length≤1000000):
 F213 w260 c=some (((decide (0<c.words_.length+c.redirs_.length)&&c.words_.all rW)&&c.redirs_.all rR)&&(decide (c.words_.length=0)||!Q9q c.words_)):=by
 rw[F213,sum0 hl,Z9a w260 _ (by omega) hw,X3c w260 _ (by omega) hr]
 have e0:decide (0<c.words_.length+c.redirs_.length)=!decide (c.words_.length+c.redirs_.length=0):=by
  by_cases h:c.words_.length+c.redirs_.length=0
  ·rw[decide_eq_true h,decide_eq_false (by omega)];rfl
  rw[decide_eq_false h,decide_eq_true (by omega)];rfl
 have i0:decide ((c.words_.length:Int)=0)=decide (c.words_.length=0):=decide_eq_decide.2 (by omega)
 rw[e0,i0]
 cases decide (c.words_.length+c.redirs_.length=0)with
 | true=>rfl
 | false=>
   rw[Bool.not_false,Q0g,Option.bind_some,Bool.true_and,Bool.false_or]
   cases hws:c.words_.all rW with
   | false=>rfl
   | true=>
     rw[Bool.not_true,Bool.not_false,Q0g,Option.bind_some,Bool.false_or,Bool.true_and]
     cases c.redirs_.all rR with
     | false=>rfl
     | true=>
       rw[Bool.not_true,Q0c,Bool.true_and]
       cases hx:c.words_ with
       | nil=>rfl
       | cons u r=>
         rw[hx]at hws ht
         rw[List.all_cons,Bool.and_eq_true]at hws
         have hu:=ht u (by simp)
         rw[show decide ((u::r).length=0)=false from decide_eq_false (by simp),Q0c,Q4d,Option.bind_some,Q9q,Bool.false_or]
         by_cases h4:u.kind_=4
         ·have h1:=J9y hws.1 h4
          cases hy:u.words_ with
          | nil=>rw[hy]at h1;simp at h1
          | cons y s=>
            rw[decide_eq_true h4,Q0e,Q0e,Q4d,Option.bind_some,Z7a _ _ _ _ _ (hu.2 y (by rw[hy];simp))]
            rfl
         rw[decide_eq_false h4,Q0c,Q0c,Z7a _ _ _ _ _ hu.1]
         rfl
theorem K1u(w98 w182:Cmd→Option Bool)(w260:Word→Option Bool)(c:Cmd)(hn:c.name_.length≤1000000)(hl:c.words_.length+c.redirs_.length≤1000000)(hl2:c.kids_.length≤1000000)
 (hw:∀x∈c.words_,F234 w260 x=some (rW x)) (hr:∀x∈c.redirs_,F237 w260 x=some (rR x)) (ht:∀x∈c.words_,x.text_.length≤1000000∧∀y∈x.words_,y.text_.length≤1000000)
 (h182:∀x∈c.kids_,w182 x=some (lvl 1 x.kind_&&rC x)) (h64:∀x∈c.kids_,F64 w98 x=some (lvl 4 x.kind_&&rC x)) (h210:∀x∈c.kids_,F210 w98 x=some ((decide (x.kind_=12)&&decide (x.redirs_.length=0))&&rC x)) (h212:∀x∈c.kids_,F212 w98 w260 x=some (Q7w x)):
 F182 w98 w182 w260 c=some (lvl 1 c.kind_&&rC c):=by
 rw[F182]
 simp only[Q3g]
 have g99:=fun n w r=>Z6r c n w r hn
 have g207:=Z9a w260 c.words_ (by omega) hw
 have g29:=J1x w98 c.kids_ hl2 h64
 have g208:=K1o w182 c.kids_ h182
 have iw1:decide ((c.words_.length:Int)=1)=decide (c.words_.length=1):=decide_eq_decide.2 (by omega)
 have ik0:decide ((c.kids_.length:Int)=0)=decide (c.kids_.length=0):=decide_eq_decide.2 (by omega)
 have ik2:decide ((c.kids_.length:Int)=2)=decide (c.kids_.length=2):=decide_eq_decide.2 (by omega)
 have iw0:decide (1≤(c.words_.length:Int))=decide (0<c.words_.length):=decide_eq_decide.2 (by omega)
 rw[iw1,ik0,ik2,iw0,g207,g29,g208]
 by_cases h2:c.kind_=2
 ·rw[decide_eq_true h2,Q0e,g99,Option.bind_some,rC_2 c h2,h2]
  show _=some (true&&_)
  cases shpB c true true false<;>cases decide (c.words_.length=1)<;>cases c.words_.all rW<;>cases decide (c.kids_.length=0)<;>cases oneB c.kids_<;>rfl
 rw[decide_eq_false h2,Q0c]
 cases h7:(decide (c.kind_=7)||(decide (c.kind_=13)||decide (c.kind_=9)))with
 | true=>
   simp only[Bool.or_eq_true,decide_eq_true_eq]at h7
   have hlv:lvl 1 c.kind_=true:=by rcases h7 with h|h|h<;>(rw[h];rfl)
   rw[Q0e,g99,Option.bind_some,rC_7 c h7,hlv]
   cases shpB c false false false<;>cases oneB c.kids_<;>rfl
 | false=>
 rw[Q0c]
 by_cases h12:c.kind_=12
 ·rw[decide_eq_true h12,Q0e,g99,Option.bind_some,X3c w260 _ (by omega) hr,K2t c h12,h12]
  show _=some (true&&_)
  cases shpB c false false true<;>cases(c.kids_.all fun c=>lvl 4 c.kind_&&rC c)<;>cases c.redirs_.all rR<;>rfl
 rw[decide_eq_false h12,Q0c]
 cases h8:(decide (c.kind_=8)||decide (c.kind_=11))with
 | true=>
   simp only[Bool.or_eq_true,decide_eq_true_eq]at h8
   have hlv:lvl 1 c.kind_=true:=by rcases h8 with h|h<;>(rw[h];rfl)
   rw[Q0e,g99,Option.bind_some,K2s c h8,hlv,Bool.true_and]
   cases shpB c false false false with
   | false=>rfl
   | true=>
     rw[Bool.true_and,Bool.true_and]
     by_cases hk:c.kids_.length=2
     ·obtain⟨a,b,e⟩:=two hk
      rw[e]at h182 h210 ⊢
      show(some a).bind _=some (true&&rIf [a,b])
      rw[Option.bind_some]
      show(F210 w98 a).bind _=_
      rw[h210 a (by simp),Option.bind_some,rIf,Q4b,List.all_cons,List.all_nil,Bool.and_true]
      cases((decide (a.kind_=12)&&decide (a.redirs_.length=0))&&rC a)with
      | false=>rfl
      | true=>
        show(some b).bind _=_
        rw[Option.bind_some]
        show(w182 b).bind _=_
        rw[h182 b (by simp)]
        rfl
     rw[decide_eq_false hk]
     rfl
 | false=>
 rw[Q0c]
 by_cases h10:c.kind_=10
 ·rw[decide_eq_true h10,Q0e,g99,Option.bind_some,V5k c h10,h10]
  show _=some (true&&_)
  cases shpB c true true false<;>cases c.words_.all rW<;>cases oneB c.kids_<;>rfl
 rw[decide_eq_false h10,Q0c]
 by_cases h17:c.kind_=17
 ·rw[decide_eq_true h17,Q0e,g99,Option.bind_some,V5g c h17,h17,X5v w98 w260 _ hl2 h212]
  show _=some (true&&_)
  cases shpB c false true false<;>cases decide (c.words_.length=1)<;>cases c.words_.all rW<;>cases c.kids_.all Q7w<;>rfl
 rw[decide_eq_false h17,Q0c]
 by_cases h15:c.kind_=15
 ·rw[decide_eq_true h15,Q0e,g99,Option.bind_some,V5i c h15,h15]
  show _=some (true&&_)
  cases shpB c true false false<;>cases(c.kids_.all fun c=>lvl 4 c.kind_&&rC c)<;>rfl
 rw[decide_eq_false h15,Q0c]
 by_cases h16:c.kind_=16
 ·rw[decide_eq_true h16,Q0e,g99,Option.bind_some,V5h c h16,h16]
  show _=some (true&&_)
  cases shpB c false true false<;>cases decide (0<c.words_.length)<;>cases decide (c.kids_.length=0)<;>cases c.words_.all rW<;>rfl
 rw[decide_eq_false h16,Q0c]
 by_cases h1:c.kind_=1
 ·rw[decide_eq_true h1,Q0e,g99,Option.bind_some,rC_1 c h1,h1,K1l w260 c hl hw hr ht]
  have e:shpB c false true true=decide (c.name_=[]):=by
   rw[shpB]
   cases decide (c.name_=[])<;>cases decide (c.words_.length=0)<;>cases decide (c.redirs_.length=0)<;>rfl
  rw[e]
  show _=some (true&&_)
  cases decide (c.name_=[])<;>cases decide (c.kids_.length=0)<;>rfl
 rw[decide_eq_false h1,Q0c]
 have hlv:lvl 1 c.kind_=false:=by
  simp only[Bool.or_eq_false_iff,decide_eq_false_iff_not]at h7 h8
  rw[lvl,lev,decide_eq_false h1,decide_eq_false h2,decide_eq_false h7.1,decide_eq_false h8.1,decide_eq_false h7.2.2,decide_eq_false h10,decide_eq_false h8.2,decide_eq_false h12,decide_eq_false h7.2.1,decide_eq_false h15,decide_eq_false h16,decide_eq_false h17]
  cases decide (c.kind_=3)<;>cases(decide (c.kind_=5)||decide (c.kind_=6))<;>cases decide (c.kind_=14)<;>rfl
 rw[hlv]
 rfl
theorem Z3v:∀n:Nat,(∀w:Word,2 * nW w<n→nW w≤2000→smW w→K260 n w=some (!decide (w.kind_=4)&&rW w))∧(∀c:Cmd,2 * nC c<n→nC c≤2000→smC c→K182 n c=some (lvl 1 c.kind_&&rC c))∧
 (∀c:Cmd,2 * nC c+1<n→nC c≤2000→smC c→K98 n c=some (lvl 3 c.kind_&&rC c))
 | 0=>⟨fun _ h=>by omega,fun _ h=>by omega,fun _ h=>by omega⟩
 | n+1=>by
   obtain⟨ihW,ihC,ihH⟩:=Z3v n
   have h234:∀x:Word,2 * nW x<n→nW x≤2000→smW x→F234 (K260 n) x=some (rW x):=fun x hx hb hs=>by
    have g1:=Q3y x
    have g2:=Q2b x.words_
    have g3:=hs
    rw[Q4z]at g3
    exact K1j _ x (by omega) (ihW x hx hb hs) (fun y hy=>ihW y (by have:=Q1f hy;omega) (by have:=Q1f hy;omega) (Q3l g3.2.2.1 hy))
   have h64:∀x:Cmd,2 * nC x+1<n→nC x≤2000→smC x→F64 (K98 n) x=some (lvl 4 x.kind_&&rC x):=fun x hx hb hs=>by
    have g1:=Q2c x
    have g3:=hs
    rw[Q4m]at g3
    exact X7x _ x (by omega) (ihH x hx hb hs) (fun y hy=>ihH y (by have:=Q0l hy;omega) (by have:=Q0l hy;omega) (Q0u g3.2.2.2.2 hy))
   refine⟨fun w hn hb hs=>?_,fun c hn hb hs=>?_,fun c hn hb hs=>?_⟩
   ·show F260 (K98 n) (K260 n) w=_
    have h1:=Q3y w
    have h2:=Q2b w.words_
    have h3:=Q1e w.cmd_
    rw[Q4z]at hs
    exact K1g _ _ w (by omega) (by omega) (by omega) (fun x hx=>h234 x (by have:=Q1f hx;omega) (by have:=Q1f hx;omega) (Q3l hs.2.2.1 hx)) (fun x hx=>h64 x (by have:=Q0l hx;omega) (by have:=Q0l hx;omega) (Q0u hs.2.2.2 hx))
   ·show F182 (K98 n) (K182 n) (K260 n) c=_
    have h1:=Q2c c
    have h2:=Q2b c.words_
    have h3:=Q1e c.kids_
    have h4:=Q6e c.redirs_
    rw[Q4m]at hs
    obtain⟨s1,s2,s3,s4,s5⟩:=hs
    refine K1u _ _ _ c (by omega) (by omega) (by omega) (fun x hx=>h234 x (by have:=Q1f hx;omega) (by have:=Q1f hx;omega) (Q3l s3 hx)) (fun d hd=>?_) (fun x hx=>?_) (fun x hx=>ihC x (by have:=Q0l hx;omega) (by have:=Q0l hx;omega) (Q0u s5 hx))
     (fun x hx=>h64 x (by have:=Q0l hx;omega) (by have:=Q0l hx;omega) (Q0u s5 hx)) (fun x hx=>?_) (fun x hx=>?_)
    ·have g1:=Q6x hd
     have g2:=Q8m d
     have g6:=Z3j s4 hd
     rw[Z9p]at g6
     have g7:=g6
     rw[Q4z]at g7
     exact K1i _ d (h234 _ (by omega) (by omega) g6) (by omega) (by omega)
    ·have hx':=Q3l s3 hx
     rw[Q4z]at hx'
     refine⟨by omega,fun y hy=>?_⟩
     have hy':=Q3l hx'.2.2.1 hy
     rw[Q4z]at hy'
     omega
    ·have g1:=Q0l hx
     have g2:=Q2c x
     have g3:=Q1e x.kids_
     have g5:=Q0u s5 hx
     rw[Q4m]at g5
     exact K1n _ x (by omega) (by omega) (fun y hy=>h64 y (by have:=Q0l hy;omega) (by have:=Q0l hy;omega) (Q0u g5.2.2.2.2 hy))
    have g1:=Q0l hx
    have g2:=Q2c x
    have g3:=Q1e x.kids_
    have g4:=Q2b x.words_
    have g5:=Q0u s5 hx
    rw[Q4m]at g5
    exact K1m _ _ x (by omega) (by omega) (by omega) (fun y hy=>h64 y (by have:=Q0l hy;omega) (by have:=Q0l hy;omega) (Q0u g5.2.2.2.2 hy)) (fun y hy=>h234 y (by have:=Q1f hy;omega) (by have:=Q1f hy;omega) (Q3l g5.2.2.1 hy))
   show F98 (K98 n) (K182 n) c=_
   have h1:=Q2c c
   have h3:=Q1e c.kids_
   have hs':=hs
   rw[Q4m]at hs
   obtain⟨s1,s2,s3,s4,s5⟩:=hs
   refine V4r _ _ c (by omega) (by omega) (ihC c (by omega) hb hs') (fun x hx=>ihC x (by have:=Q0l hx;omega) (by have:=Q0l hx;omega) (Q0u s5 hx)) (fun x hx=>ihH x (by have:=Q0l hx;omega) (by have:=Q0l hx;omega) (Q0u s5 hx)) (fun x hx=>?_)
   have g1:=Q0l hx
   have g2:=Q2c x
   have g3:=Q1e x.kids_
   have g5:=Q0u s5 hx
   rw[Q4m]at g5
   exact⟨by omega,by omega,fun y hy=>ihC y (by have:=Q0l hy;omega) (by have:=Q0l hy;omega) (Q0u g5.2.2.2.2 hy)⟩
theorem V4w(l:List Cmd)(hb:nCs l≤2000)(hs:smCs l):F13 l=some ((decide (szCs l≤1024)&&decide (dCs l≤32))&&l.all fun c=>lvl 4 c.kind_&&rC c):=by
 have hl:=Q1e l
 rw[F13,V4s l hb,Option.bind_some]
 exact Q3o fun _=>J1x _ l (by omega) (fun x hx=>by
  have g1:=Q0l hx
  have g2:=Q2c x
  have g5:=Q0u hs hx
  have g6:=g5
  rw[Q4m]at g6
  exact X7x _ x (by omega) ((Z3v BIG).2.2 x (by unfold BIG;omega) (by omega) g5) (fun y hy=>(Z3v BIG).2.2 y (by have:=Q0l hy;unfold BIG;omega) (by have:=Q0l hy;omega) (Q0u g6.2.2.2.2 hy)))
end Go.Abs.U48
namespace Go.Abs.U48
open Go Go.Proofs
def Q0j(c:UInt8):Str→List Str
 | []=>[[]]
 | x::r=>if x=c then[]::Q0j c r else match Q0j c r with
   | []=>[[x]]
   | p::ps=>(x::p)::ps
theorem Z2t(c:UInt8):∀s:Str,∃p ps,Q0j c s=p::ps
 | []=>⟨[],[],rfl⟩
 | x::r=>by
   obtain⟨p,ps,h⟩:=Z2t c r
   simp only[Q0j]
   split
   ·exact⟨_,_,rfl⟩
   rw[h]
   exact⟨_,_,rfl⟩
theorem J0m{c:UInt8}:∀ (n:Nat) (t:Str),n<t.length→(∀j,j<n→t.getD j 0≠c)→t.getD n 0=c→Q0j c t=t.take n::Q0j c (t.drop (n+1))
 | 0,[],h,_,_=>by simp at h
 | 0,x::r,_,_,h2=>by
   simp only[List.getD_cons_zero]at h2
   simp[Q0j,h2]
 | n+1,[],h,_,_=>by simp at h
 | n+1,x::r,h,h1,h2=>by
   have hx:x≠c:=by simpa using h1 0 (by omega)
   have ih:=J0m n r (by simpa using h) (fun j hj=>by simpa using h1 (j+1) (by omega)) (by simpa using h2)
   simp only[Q0j,if_neg hx]
   rw[ih]
   simp
theorem Z6c{c:UInt8}:∀ (t:Str),(∀j,j<t.length→t.getD j 0≠c)→Q0j c t=[t]
 | [],_=>rfl
 | x::r,h=>by
   have hx:x≠c:=by simpa using h 0 (by simp)
   have ih:=Z6c r (fun j hj=>by simpa using h (j+1) (by simpa using hj))
   simp only[Q0j,if_neg hx]
   rw[ih]
theorem X6s(c:UInt8):∀s:Str,(Lib.index s [c]=-1∧∀j,j<s.length→s.getD j 0≠c)∨∃i:Nat,i<s.length∧Lib.index s [c]=i∧s.getD i 0=c∧∀j,j<i→s.getD j 0≠c
 | []=>.inl ⟨rfl,fun j hj=>absurd hj (Nat.not_lt_zero j)⟩
 | x::r=>by
   by_cases hx:c=x
   ·refine .inr ⟨0,by simp,?_,by simp[hx],fun j hj=>absurd hj (Nat.not_lt_zero j)⟩
    simp[Lib.index,List.isPrefixOf,hx]
   have hp:([c]:Str).isPrefixOf (x::r)=false:=by simp[List.isPrefixOf,hx]
   rcases X6s c r with⟨h1,h2⟩|⟨i,hi,h1,h2,h3⟩
   ·refine .inl ⟨by simp[Lib.index,hp,h1],fun j hj=>?_⟩
    cases j with
    | zero=>simpa using fun e=>hx (Eq.symm e)
    | succ j=>simpa using h2 j (by simpa using hj)
   refine .inr ⟨i+1,by simpa using hi,?_,by simpa using h2,fun j hj=>?_⟩
   ·have:((i:Int)==-1)=false:=by rw[beq_eq_false_iff_ne];omega
    simp[Lib.index,hp,h1,this]
   cases j with
   | zero=>simpa using fun e=>hx (Eq.symm e)
   | succ j=>simpa using h3 j (by omega)
theorem Z1p(c:UInt8):∀ (fuel:Nat) (s:Str),s.length<fuel→Lib.splitK [c] 0 (Lib.countFrom [c] fuel s) s=Q0j c s
 | 0,s,h=>absurd h (Nat.not_lt_zero _)
 | fuel+1,s,h=>by
   simp only[Lib.countFrom]
   rcases X6s c s with⟨h1,h2⟩|⟨i,hi,h1,h2,h3⟩
   ·rw[h1]
    simp only[beq_self_eq_true,if_true]
    rw[Z6c s h2]
    rfl
   have hne:((i:Int)==-1)=false:=by rw[beq_eq_false_iff_ne];omega
   rw[h1,hne]
   simp only[Bool.false_eq_true,if_false,Int.toNat_natCast,List.length_singleton]
   rw[Nat.add_comm 1,Lib.splitK,h1,hne]
   simp only[Bool.false_eq_true,if_false,Int.toNat_natCast,List.length_singleton,Nat.add_zero]
   rw[Z1p c fuel (s.drop (i+1)) (by simp;omega),J0m i s hi h3 h2]
theorem Z9o(s:Str)(c:UInt8):splitS s [c]=Q0j c s:=by
 unfold splitS
 have:=Lib.splitB_data ⟨⟨[c]⟩⟩ 0 (Lib.countB ⟨⟨s⟩⟩ ⟨⟨[c]⟩⟩) ⟨⟨s⟩⟩
 rw[this]
 exact Z1p c (s.length+1) s (Nat.lt_succ_self _)
theorem J8x{s:Str}(c:UInt8)(h:s.length≤4294967280):L_Split s [c]=some (Q0j c s):=by
 unfold L_Split
 rw[if_pos ⟨by omega,by simp⟩,Z9o]
def dbl:Str→Str
 | []=>[]
 | c::r=>bif decide (B c=39)then c::39::dbl r else c::dbl r
theorem X1p:∀s:Str,(dbl s).length≤2 * s.length
 | []=>Nat.le_refl _
 | c::r=>by
   have:=X1p r
   simp only[dbl]
   cases decide (B c=39)<;>simp<;>omega
theorem Z1r(c:UInt8)(new:Str):∀s:Str,Lib.replaceK [c] new (Lib.count s [c]) s=s.flatMap fun x=>if x=c then new else[x]
 | []=>by
   have:Lib.count [] [c]=0:=by rw[Lib.count_one];rfl
   rw[this]
   rfl
 | x::s=>by
   have ih:=Z1r c new s
   rw[List.flatMap_cons,←ih]
   by_cases hx:x=c
   ·subst hx
    rw[Lib.count_cons_eq,Nat.add_comm,Lib.replaceK_hit [x] new _ (x::s) 0 (by rw[Lib.index_one];simp[Lib.indexByte])]
    simp
   rw[Lib.count_cons_ne x c s hx,if_neg hx]
   cases hk:Lib.count s [c]with
   | zero=>rfl
   | succ k=>
     obtain⟨i,hi⟩:=Lib.index_of_count (s:=s) (old:=[c]) (by omega)
     have h1:Lib.index (x::s) [c]=((i+1:Nat):Int):=by
      rw[Lib.index_one]at hi ⊢
      simp only[Lib.indexByte]
      rw[if_neg (by simpa using hx),if_neg (by rw[hi];simp),hi]
      simp
     rw[Lib.replaceK_hit [c] new k (x::s) (i+1) h1,Lib.replaceK_hit [c] new k s i hi]
     simp
theorem Z4o:∀s:Str,(s.flatMap fun x=>if x=39 then[39,39]else[x])=dbl s
 | []=>rfl
 | c::r=>by
   rw[List.flatMap_cons,Z4o r]
   simp only[dbl]
   have hb:decide (B c=39)=decide (c=39):=Q5o c 39
   rw[hb]
   by_cases hc:c=39
   ·subst hc
    rfl
   rw[if_neg hc,decide_eq_false hc]
   rfl
theorem Z4z{s:Str}(hs:s.length≤2147483647):L_ReplaceAll s [39] [39,39]=some (dbl s):=by
 have hc:Lib.countB ⟨⟨s⟩⟩ ⟨⟨[39]⟩⟩≤s.length:=Lib.countB_le ⟨⟨[39]⟩⟩ (by decide) s.length ⟨⟨s⟩⟩ (Nat.le_refl _)
 unfold L_ReplaceAll
 rw[if_pos ⟨by omega,by decide,by simp only[List.length_cons,List.length_nil];omega⟩]
 have:Lib.replaceAll s [39] [39,39]=Lib.replaceK [39] [39,39] (Lib.count s [39]) s:=rfl
 rw[this,Z1r,Z4o]
def Z4b(ls:List Str):Nat→Nat→Nat
 | 0,n=>n
 | k+1,n=>bif ls.any (fun m=>decide (m=List.replicate n 69))then Z4b ls k (n+1)else n
def mark(t:Str):Str:=List.replicate (Z4b (Q0j 10 t) (t.length+1) 1) 69
theorem Q9i:∀ (s:Str) (p:Str),p∈Q0j 10 s→p.length≤s.length
 | [],p,h=>by
   rw[Q0j,List.mem_singleton]at h
   rw[h]
   exact Nat.le_refl _
 | x::r,p,h=>by
   rw[Q0j]at h
   by_cases hx:x=10
   ·rw[if_pos hx]at h
    rcases List.mem_cons.1 h with rfl|h
    ·exact Nat.zero_le _
    exact Nat.le_succ_of_le (Q9i r p h)
   rw[if_neg hx]at h
   obtain⟨q,qs,e⟩:=Z2t 10 r
   rw[e]at h
   have hm:∀y,y∈Q0j 10 r→y.length≤r.length:=Q9i r
   rw[e]at hm
   rcases List.mem_cons.1 h with rfl|h
   ·have:=hm q (List.mem_cons_self ..)
    simpa using this
   exact Nat.le_succ_of_le (hm p (List.mem_cons_of_mem _ h))
theorem J5k(ls:List Str):∀k n,Z4b ls k n≤n+k
 | 0,n=>Nat.le_refl _
 | k+1,n=>by
   rw[Z4b]
   cases ls.any (fun m=>decide (m=List.replicate n 69))with
   | true=>exact Nat.le_trans (J5k ls k (n+1)) (by omega)
   | false=>exact Nat.le_add_right _ _
theorem J5l(t:Str):(mark t).length≤t.length+2:=by
 rw[mark,List.length_replicate]
 have:=J5k (Q0j 10 t) (t.length+1) 1
 omega
theorem X0s(t:Str)(ht:t.length≤1000000):∀ (k n m:Nat),n+k=t.length+2→k<m→iter (Z1l (Q0j 10 t)) m (List.replicate n 69)=some (List.replicate (Z4b (Q0j 10 t) k n) 69)
 | k,n,0,_,h=>absurd h (Nat.not_lt_zero _)
 | k,n,m+1,hn,h=>by
   show Z1l (Q0j 10 t) (iter (Z1l (Q0j 10 t)) m) (List.replicate n 69)=_
   rw[Z1l]
   show(bif (Q0j 10 t).any (fun x=>decide (x=List.replicate n 69))then _ else _)=_
   cases e:(Q0j 10 t).any (fun x=>decide (x=List.replicate n 69))with
   | false=>
     rw[Q0c]
     cases k with
     | zero=>rfl
     | succ k=>rw[Z4b,e,Q0c]
   | true=>
     obtain⟨x,hx,hx2⟩:=List.any_eq_true.1 e
     have hx3:=of_decide_eq_true hx2
     have hl:=Q9i t x hx
     rw[hx3,List.length_replicate]at hl
     cases k with
     | zero=>omega
     | succ k=>
       have hc:catO (List.replicate n 69) [69]=some (List.replicate (n+1) 69):=by
        rw[Q2q (by rw[List.length_replicate];simp only[List.length_cons,List.length_nil];omega),←List.replicate_succ' ]
       rw[Q0e,hc,Option.bind_some,X0s t ht k (n+1) m (by omega) (by omega),Z4b,e,Q0e]
theorem X3l(t:Str)(ht:t.length≤1000000):F109 t=some (mark t):=by
 rw[F109,J8x 10 (by omega),Option.bind_some]
 exact X0s t ht (t.length+1) 1 BIG (by omega) (by unfold BIG;omega)
end Go.Abs.U48
namespace Go.Abs.U48
open Go Go.Proofs
abbrev St:=Str×Str
def put(s:Str)(st:St):St:=(st.1++s,st.2)
def endl(b:Str):Str:=bif decide (b.getLast?=some 92)then b++[32]else b
def nl(st:St):St:=(endl st.1++(10::st.2),[])
def wait(s:Str)(st:St):St:=(st.1,st.2++s)
theorem Q2s(a b:Str)(st:St):put b (put a st)=put (a++b) st:=by rw[put,put,put,List.append_assoc]
theorem X0h(st:St):put [] st=st:=by rw[put,List.append_nil]
def qrun:Bool→Str→Str→Str
 | o,c::t,x::q=>bif decide (B x=49)then(bif o then[]else[39])++(c::(bif decide (B c=39)then[39]else[])++qrun true t q)
   else(bif o then[39]else[])++c::qrun false t q
 | o,_,_=>bif o then[39]else[]
def Z5j(t q:Str):Str:=bif decide (t=[])then[39,39]else qrun false t q
def dig(n:Int):Str:=bif decide (n<10)then[UInt8.ofNat (48+n.toNat)]else[UInt8.ofNat (48+n.toNat / 10),UInt8.ofNat (48+n.toNat % 10)]
def brk(n u:Int):Str:=bif decide (n=u)then[]else 91::(dig n++[93])
def qraw(raw:Bool):Str:=bif raw then[39]else[]
mutual
def pW:Word→St→St
 | ⟨k,t,q,ws,cs⟩,st=>
   bif decide (k=1)then put (Z5j t q) st
   else bif decide (k=2)then put (36::t) st
   else bif decide (k=3)then put (36::35::t) st
   else bif decide (k=7)then put [41] (pSep ws [32] true (put (36::(t++[40])) st))
   else bif decide (k=5)then put [41] (pSep ws [32] true (put [40] st))
   else bif decide (k=4)then pSep ws [94] true st
   else put [125] (pIts cs (nl (put [96,123] st)))
def pSep:List Word→Str→Bool→St→St
 | [],_,_,st=>st
 | w::r,s,f,st=>pSep r s false (pW w (bif f then st else put s st))
def pC:Cmd→St→St
 | ⟨k,_,nm,ws,rs,ks⟩,st=>
   bif decide (k=14)then put [32,38] (pJ ks [] true st)
   else bif decide (k=5)then pJ ks [32,38,38,32] true st
   else bif decide (k=6)then pJ ks [32,124,124,32] true st
   else bif decide (k=3)then pJ ks [32,124,32] true st
   else bif decide (k=7)then pJ ks [] true (put [33,32] st)
   else bif decide (k=13)then pJ ks [] true (put [64,32] st)
   else bif decide (k=9)then pJ ks [] true (put [105,102,32,110,111,116,32] st)
   else bif decide (k=12)then pRs rs false (put [125] (pIts ks (nl (put [123] st))))
   else bif decide (k=1)then pRs rs (decide (ws=[])) (pSep ws [32] true st)
   else bif decide (k=2)then pJ ks [] true (bif decide (ks.length=0)then pSep ws [32] true (put (nm++[61]) st)else put [32] (pSep ws [32] true (put (nm++[61]) st)))
   else bif decide (k=8)then pT ks (put [105,102,40] st)
   else bif decide (k=11)then pT ks (put [119,104,105,108,101,40] st)
   else bif decide (k=10)then pJ ks [] true (put [41,32] (pSep ws [32] false (put ([102,111,114,40]++(nm++[32,105,110])) st)))
   else bif decide (k=17)then put [125] (pCs ks (nl (put [32,123] (pSep ws [32] false (put [115,119,105,116,99,104] st)))))
   else bif decide (k=15)then(bif decide (ks.length=0)then put ([102,110,32]++nm) st else put [125] (pIts ks (nl (put ([102,110,32]++nm++[32,123]) st))))
   else pSep ws [32] false (put [126] st)
def pIts:List Cmd→St→St
 | [],st=>st
 | c::r,st=>pIts r (nl (pC c st))
def pJ:List Cmd→Str→Bool→St→St
 | [],_,_,st=>st
 | c::r,s,f,st=>pJ r s false (pC c (bif f then st else put s st))
def pT:List Cmd→St→St
 | [],st=>st
 | c::r,st=>pJ r [] true (put [41,32] (pK c (nl st)))
def pK:Cmd→St→St
 | ⟨_,_,_,_,_,ks⟩,st=>pIts ks st
def pCa:Cmd→St→St
 | ⟨_,_,_,ws,_,ks⟩,st=>pIts ks (nl (pSep ws [32] false (put [99,97,115,101] st)))
def pCs:List Cmd→St→St
 | [],st=>st
 | c::r,st=>pCs r (pCa c st)
def pR:Redir→St→St
 | ⟨k,fd,fr,w,raw⟩,st=>
   bif decide (k=1)then pW w (put (60::(brk fd 0++[32])) st)
   else bif decide (k=2)then pW w (put (62::(brk fd 1++[32])) st)
   else bif decide (k=3)then pW w (put (62::62::(brk fd 1++[32])) st)
   else bif decide (k=5)then put ([62,91]++dig fd++[61]++dig fr++[93]) st
   else bif decide (k=6)then put ([62,91]++dig fd++[61,93]) st
   else put ([60,60]++qraw raw++mark w.text_++qraw raw) (wait (w.text_++(mark w.text_++[10])) st)
def pRs:List Redir→Bool→St→St
 | [],_,st=>st
 | d::r,f,st=>pRs r false (pR d (bif f then st else put [32] st))
end
theorem K2y(w:Word)(st:St):pW w st=
 (bif decide (w.kind_=1)then put (Z5j w.text_ w.quoted_) st
 else bif decide (w.kind_=2)then put (36::w.text_) st
 else bif decide (w.kind_=3)then put (36::35::w.text_) st
 else bif decide (w.kind_=7)then put [41] (pSep w.words_ [32] true (put (36::(w.text_++[40])) st))
 else bif decide (w.kind_=5)then put [41] (pSep w.words_ [32] true (put [40] st))
 else bif decide (w.kind_=4)then pSep w.words_ [94] true st
 else put [125] (pIts w.cmd_ (nl (put [96,123] st)))):=by
 obtain⟨_,_,_,ws,cs⟩:=w
 rw[pW]
theorem Q3x(c:Cmd)(st:St):pC c st=
 (bif decide (c.kind_=14)then put [32,38] (pJ c.kids_ [] true st)
 else bif decide (c.kind_=5)then pJ c.kids_ [32,38,38,32] true st
 else bif decide (c.kind_=6)then pJ c.kids_ [32,124,124,32] true st
 else bif decide (c.kind_=3)then pJ c.kids_ [32,124,32] true st
 else bif decide (c.kind_=7)then pJ c.kids_ [] true (put [33,32] st)
 else bif decide (c.kind_=13)then pJ c.kids_ [] true (put [64,32] st)
 else bif decide (c.kind_=9)then pJ c.kids_ [] true (put [105,102,32,110,111,116,32] st)
 else bif decide (c.kind_=12)then pRs c.redirs_ false (put [125] (pIts c.kids_ (nl (put [123] st))))
 else bif decide (c.kind_=1)then pRs c.redirs_ (decide (c.words_=[])) (pSep c.words_ [32] true st)
 else bif decide (c.kind_=2)then pJ c.kids_ [] true (bif decide (c.kids_.length=0)then pSep c.words_ [32] true (put (c.name_++[61]) st)else put [32] (pSep c.words_ [32] true (put (c.name_++[61]) st)))
 else bif decide (c.kind_=8)then pT c.kids_ (put [105,102,40] st)
 else bif decide (c.kind_=11)then pT c.kids_ (put [119,104,105,108,101,40] st)
 else bif decide (c.kind_=10)then pJ c.kids_ [] true (put [41,32] (pSep c.words_ [32] false (put ([102,111,114,40]++(c.name_++[32,105,110])) st)))
 else bif decide (c.kind_=17)then put [125] (pCs c.kids_ (nl (put [32,123] (pSep c.words_ [32] false (put [115,119,105,116,99,104] st)))))
 else bif decide (c.kind_=15)then(bif decide (c.kids_.length=0)then put ([102,110,32]++c.name_) st else put [125] (pIts c.kids_ (nl (put ([102,110,32]++c.name_++[32,123]) st))))
 else pSep c.words_ [32] false (put [126] st)):=by
 obtain⟨_,_,_,ws,rs,ks⟩:=c
 rw[pC]
theorem X8t(c:Cmd)(st:St):pK c st=pIts c.kids_ st:=by
 obtain⟨_,_,_,ws,rs,ks⟩:=c
 rw[pK]
theorem X6o(c:Cmd)(st:St):pCa c st=pIts c.kids_ (nl (pSep c.words_ [32] false (put [99,97,115,101] st))):=by
 obtain⟨_,_,_,ws,rs,ks⟩:=c
 rw[pCa]
theorem K2z(d:Redir)(st:St):pR d st=
 (bif decide (d.kind_=1)then pW d.word_ (put (60::(brk d.fd_ 0++[32])) st)
 else bif decide (d.kind_=2)then pW d.word_ (put (62::(brk d.fd_ 1++[32])) st)
 else bif decide (d.kind_=3)then pW d.word_ (put (62::62::(brk d.fd_ 1++[32])) st)
 else bif decide (d.kind_=5)then put ([62,91]++dig d.fd_++[61]++dig d.from_++[93]) st
 else bif decide (d.kind_=6)then put ([62,91]++dig d.fd_++[61,93]) st
 else put ([60,60]++qraw d.raw_++mark d.word_.text_++qraw d.raw_) (wait (d.word_.text_++(mark d.word_.text_++[10])) st)):=by
 obtain⟨_,_,_,w,_⟩:=d
 rw[pR]
def sz(st:St):Nat:=st.1.length+st.2.length
def LIM:Nat:=1000000000
section Sim
variable {δ:Type}(pd:δ→Str)(ok:δ→Prop)
def Sim(f:Str→δ→Option (Str×δ))(g:St→St)(c:Nat):Prop:=
 ∀b l,ok l→sz (b,pd l)+c≤LIM→∃l',f b l=some ((g (b,pd l)).1,l')∧pd l'=(g (b,pd l)).2∧ok l'∧sz (g (b,pd l))≤sz (b,pd l)+c
variable {pd ok}
theorem Sim.id:Sim pd ok (fun b l=>some (b,l)) (fun st=>st) 0:=fun b l h _=>⟨l,rfl,rfl,h,Nat.le_refl _⟩
theorem Sim.weak{f:Str→δ→Option (Str×δ)}{g g':St→St}{c c':Nat}(h:Sim pd ok f g c)(hg:∀st,g st=g' st)(hc:c≤c'):Sim pd ok f g' c':=by
 have:g=g':=funext hg
 subst this
 intro b l h1 h2
 obtain⟨l',e1,e2,e3,e4⟩:=h b l h1 (by omega)
 exact⟨l',e1,e2,e3,by omega⟩
theorem Sim.w{f:Str→δ→Option (Str×δ)}{g g':St→St}{c c':Nat}(h:Sim pd ok f g c)(hg:∀st,g st=g' st:=by intro st;first|rfl|simp only[List.flatten_cons,List.flatten_nil,List.append_nil,List.cons_append,List.nil_append,List.append_assoc])
 (hc:c≤c':=by first|omega|(simp only[nCs,nWs,nRs,List.flatten_cons,List.flatten_nil,List.append_nil,List.length_append,List.length_cons,List.length_nil];omega)):Sim pd ok f g' c':=h.weak hg hc
theorem Sim.bind{f1 f2:Str→δ→Option (Str×δ)}{g1 g2:St→St}{c1 c2:Nat}(h1:Sim pd ok f1 g1 c1)(h2:Sim pd ok f2 g2 c2):
 Sim pd ok (fun b l=>(f1 b l).bind fun(b,l)=>f2 b l) (fun st=>g2 (g1 st)) (c1+c2):=by
 intro b l k1 k2
 obtain⟨l1,a1,a2,a3,a4⟩:=h1 b l k1 (by omega)
 have es:((g1 (b,pd l)).1,pd l1)=g1 (b,pd l):=by rw[a2]
 have h2':=h2 (g1 (b,pd l)).1 l1 a3
 rw[es]at h2'
 obtain⟨l2,b1,b2,b3,b4⟩:=h2' (by omega)
 refine⟨l2,?_,b2,b3,?_⟩
 ·show(f1 b l).bind _=_
  rw[a1,Option.bind_some]
  exact b1
 show sz (g2 (g1 (b,pd l)))≤_
 omega
def App(f:Str→δ→Option Str)(s:Str):Prop:=∀b l,ok l→sz (b,pd l)+s.length≤LIM→f b l=some (b++s)
theorem Sim.put{f:Str→δ→Option Str}{s:Str}(hf:App (pd:=pd) (ok:=ok) f s){k:Str→δ→Option (Str×δ)}{g:St→St}{c:Nat}(h:Sim pd ok k g c):
 Sim pd ok (fun b l=>(f b l).bind fun o=>k o l) (fun st=>g (put s st)) (s.length+c):=by
 intro b l k1 k2
 have:=h (b++s) l k1 (by simp only[sz,List.length_append]at k2 ⊢;omega)
 obtain⟨l',e1,e2,e3,e4⟩:=this
 refine⟨l',?_,e2,e3,?_⟩
 ·show(f b l).bind _=_
  rw[hf b l k1 (by omega),Option.bind_some]
  exact e1
 refine Nat.le_trans e4 ?_
 unfold sz
 simp only[List.length_append]
 omega
theorem Sim.loop{α:Type}{body:((Int×Str×δ)→Option (Str×δ))→(Int×Str×δ)→Option (Str×δ)}(l:List α)(G:Bool→List α→St→St)(cost:List α→Nat)(hl:l.length≤1000000)
 (hstep:∀ (i:Nat) (u:α) (r:List α) (again:(Int×Str×δ)→Option (Str×δ)),i<1000000→l.drop i=u::r→lidx l (i:Int)=some u→decide ((i:Int)<(l.length:Int))=true→
   Sim pd ok (fun b d=>again (IntKind.wrap .i64 ((i:Int)+1),b,d)) (G false r) (cost r)→Sim pd ok (fun b d=>body again ((i:Int),b,d)) (G (decide (i=0)) (u::r)) (cost (u::r)))
 (hend:∀ (again:(Int×Str×δ)→Option (Str×δ)),decide ((l.length:Int)<(l.length:Int))=false→Sim pd ok (fun b d=>body again ((l.length:Int),b,d)) (G (decide (l=[])) []) (cost [])):
 Sim pd ok (fun b d=>iter body BIG (0,b,d)) (G true l) (cost l):=by
 have key:∀ (n i:Nat),i≤l.length→l.length-i<n→Sim pd ok (fun b d=>iter body n ((i:Int),b,d)) (G (decide (i=0)) (l.drop i)) (cost (l.drop i)):=by
  intro n
  induction n with
  | zero=>intro i h1 h2;omega
  | succ n ih=>
    intro i h1 h2
    by_cases hc:i<l.length
    ·have hd:=Q0y hc
     rw[hd]
     refine hstep i l[i] (l.drop (i+1)) (iter body n) (by omega) hd (Q5n hc) (decide_eq_true (by omega)) ?_
     have:=ih (i+1) (by omega) (by omega)
     rw[decide_eq_false (p:=i+1=0) (by omega)]at this
     rw[Q0r (by omega) (by omega)]
     exact this
    have hi:i=l.length:=by omega
    subst hi
    have:=hend (iter body n) (decide_eq_false (by omega))
    rw[List.drop_length]
    have e:decide (l.length=0)=decide (l=[]):=decide_eq_decide.2 List.length_eq_zero_iff
    rw[e]
    exact this
 exact key BIG 0 (Nat.zero_le _) (by unfold BIG;omega)
end Sim
end Go.Abs.U48
namespace Go.Abs.U48
open Go Go.Proofs
def pend(l:List Redir):Str:=l.flatMap fun r=>r.word_.text_++(mark r.word_.text_++[10])
def okD(l:List Redir):Prop:=∀r∈l,r.word_.text_.length≤2000
abbrev PS:=Sim pend okD
theorem Z3x(r:Redir)(l:List Redir):pend (r::l)=(r.word_.text_++(mark r.word_.text_++[10]))++pend l:=List.flatMap_cons ..
theorem X3z(a b:List Redir):pend (a++b)=pend a++pend b:=List.flatMap_append ..
theorem Z7v:∀l:List Redir,l.length≤(pend l).length
 | []=>Nat.le_refl _
 | r::l=>by
   have:=Z7v l
   rw[Z3x]
   simp only[List.length_append,List.length_cons,List.length_nil]
   omega
theorem K2d(s b:Str)(l:List Redir)(h:b.length+s.length≤140737488355328):F123 s b l=some ((s.length:Int),b++s):=by
 rw[F123,F163,Option.bind_some,apS,if_pos h]
 rfl
theorem Q8x(ts:List Str)(b:Str)(l:List Redir)(ht:ts.length≤1000)(h:b.length+ts.flatten.length≤1000000000):F103 ts b l=some (b++ts.flatten):=by
 rw[F103,Z4d (body:=J4l ts l) ts (fun w _ k s=>(F123 w s l).bind fun x=>k x.2) (fun s=>some s) (fun again i s=>rfl) (by omega)]
 have key:∀ (r:List Str) (i:Int) (s:Str),s.length+r.flatten.length≤1000000000→Q3n (fun(w:Str) (_:Int) (k:Str→Option Str) (s:Str)=>(F123 w s l).bind fun x=>k x.2) (fun s=>some s) r i s=some (s++r.flatten):=by
  intro r
  induction r with
  | nil=>intro i s _;rw[Q3n,List.flatten_nil,List.append_nil]
  | cons w r ih=>
    intro i s hs
    rw[List.flatten_cons,List.length_append]at hs
    rw[Q3n,K2d _ _ _ (by omega),Option.bind_some]
    rw[ih (i+1) (s++w) (by rw[List.length_append];omega),List.flatten_cons,List.append_assoc]
 exact key ts 0 b h
theorem Q0m(ts:List Str)(ht:ts.length≤1000:=by simp):App (pd:=pend) (ok:=okD) (F103 ts) ts.flatten:=by
 intro b l _ h
 refine Q8x ts b l ht ?_
 unfold sz LIM at h
 simp only at h
 omega
theorem V4x(t:Str)(c:UInt8)(hl:t.length≤1000000000):F108 t [c]=some (decide (t.getLast?=some c)):=by
 rw[F108,F155]
 cases ht:t with
 | nil=>rfl
 | cons a s=>
   rw[←ht]
   have hp:0<t.length:=by rw[ht];simp
   have e:decide (((([c]:Str).length:Nat):Int)≤(t.length:Int))=true:=decide_eq_true (by simp;omega)
   rw[e,Q0g,Q0r (by simp;omega) (by simp;omega),Q1o,if_pos (by simp;omega),Option.bind_some,Option.bind_some,Bool.true_and]
   congr 1
   refine decide_eq_decide.2 ?_
   rw[show((t.length:Int)-((([c]:Str).length:Nat):Int)).toNat=t.length-1 by first|(simp;done)|(simp;omega),show((t.length:Int)).toNat-(t.length-1)=1 by first|(simp;done)|(simp;omega)]
   rw[List.getLast?_eq_getElem?,Q0y (show t.length-1<t.length by omega),List.getElem?_eq_getElem (by omega),List.take_succ_cons,List.take_zero]
   simp
theorem K3m(l2:List Redir)(hd:okD l2)(hl:l2.length≤1000000000)(b:Str)(hb:b.length+(pend l2).length≤1000000000):iter (J6o l2) BIG (0,b)=some (b++pend l2,[]):=by
 rw[Z4d (body:=J6o l2) l2 (fun u _ k s=>(F109 u.word_.text_).bind fun r=>(F103 [u.word_.text_,r,[10]] s l2).bind fun o=>k o) (fun s=>some (s,[])) (fun again i s=>rfl) (by omega)]
 have key:∀ (r:List Redir) (i:Int) (s:Str),okD r→s.length+(pend r).length≤1000000000→
  Q3n (fun(u:Redir) (_:Int) (k:Str→Option (Str×List Redir)) (s:Str)=>(F109 u.word_.text_).bind fun r=>(F103 [u.word_.text_,r,[10]] s l2).bind fun o=>k o) (fun s=>some (s,[])) r i s=some (s++pend r,[]):=by
  intro r
  induction r with
  | nil=>intro i s _ _;rw[Q3n,pend,List.flatMap_nil,List.append_nil]
  | cons w r ih=>
    intro i s h1 hs
    have hw:=h1 w (List.mem_cons_self ..)
    have e:[w.word_.text_,mark w.word_.text_,[10]].flatten=w.word_.text_++(mark w.word_.text_++[10]):=by simp
    rw[Z3x]at hs ⊢
    rw[List.length_append]at hs
    rw[Q3n,X3l _ (by omega),Option.bind_some,Q8x _ _ _ (by simp) (by rw[e];omega),Option.bind_some,e]
    rw[ih (i+1) _ (fun x hx=>h1 x (List.mem_cons_of_mem _ hx)) (by rw[List.length_append];omega),List.append_assoc]
 exact key l2 0 b hd hb
theorem J5x(b:Str):(endl b).length≤b.length+1:=by
 unfold endl
 cases decide (b.getLast?=some 92)<;>simp
theorem J5i:PS F67 nl 2:=by
 intro b l h1 h2
 have hp:=Z7v l
 have he:=J5x b
 unfold sz LIM at h2
 simp only at h2
 refine⟨[],?_,rfl,fun r hr=>absurd hr (List.not_mem_nil),?_⟩
 ·rw[F67,F36,Option.bind_some,V4x b 92 (by omega),Option.bind_some]
  have hj:∀x:Str,x.length≤b.length+1→Z6w l x=some (x++(10::pend l),[]):=fun x hx=>by
   rw[Z6w,Q8x _ _ _ (by simp) (by simp;omega),Option.bind_some,K3m l h1 (by omega) _ (by simp;omega)]
   simp
  unfold nl endl
  cases decide (b.getLast?=some 92)with
  | false=>rw[Q0c,Q0c];exact hj b (by omega)
  | true=>rw[Q0e,Q0e,Q8x _ _ _ (by simp) (by simp;omega),Option.bind_some];exact hj _ (by simp)
 unfold sz nl
 simp only[List.length_append,List.length_cons,List.length_nil]
 omega
theorem X1o:∀ (t:Str) (k:Nat) (t2 q2:Str),k=t.length→(∀x,q2.head?=some x→B x≠49)→qrun true (t++t2) (List.replicate k 49++q2)=dbl t++39::qrun false t2 q2
 | [],k,t2,q2,hk,h=>by
   subst hk
   rw[List.length_nil,List.replicate_zero,List.nil_append,List.nil_append,dbl,List.nil_append]
   cases t2 with
   | nil=>cases q2<;>rfl
   | cons c t2=>cases q2 with
     | nil=>rfl
     | cons x q2=>
       rw[qrun,qrun,decide_eq_false (h x rfl)]
       rfl
 | c::t,k,t2,q2,hk,h=>by
   subst hk
   rw[List.length_cons,List.replicate_succ,List.cons_append,List.cons_append,qrun,X1o t t.length t2 q2 rfl h,dbl]
   have:decide (B 49=49)=true:=rfl
   rw[this,Q0e,Q0e]
   cases decide (B c=39)<;>rfl
theorem J6a:∀ (t:Str) (x:UInt8) (k:Nat) (t2 q2:Str),B x≠49→k=t.length→qrun false (t++t2) (List.replicate k x++q2)=t++qrun false t2 q2
 | [],x,k,t2,q2,hx,hk=>by
   subst hk
   rfl
 | c::t,x,k,t2,q2,hx,hk=>by
   subst hk
   rw[List.length_cons,List.replicate_succ,List.cons_append,List.cons_append,qrun,decide_eq_false hx,Q0c,Q0c,J6a t x t.length t2 q2 hx rfl]
   rfl
theorem b49{x:UInt8}(h:B x=49):x=49:=of_decide_eq_true ((Q5o x 49).symm.trans (decide_eq_true (show((x.toNat:Nat):Int)=((49:UInt8).toNat:Int) from h)))
def J5t(w:Word)(i:Nat)(l7:Str)(l3:List Redir)(again8:(Int×Str)→Option Str)(m:Int):Option Str:=
 (Q1o w.text_ (i:Int) m).bind fun t23=>
 (sidx w.quoted_ (i:Int)).bind fun c26=>
 (bif decide (c26=49)then
  (L_ReplaceAll t23 [39] [39,39]).bind fun t30=>
  (catO [39] t30).bind fun s33=>
  (catO s33 [39]).bind fun s36=>
  (F103 [s36] l7 l3).bind fun o39=>
  again8 (m,o39)
 else
  (F103 [t23] l7 l3).bind fun o43=>
  again8 (m,o43))
theorem X0q(w:Word)(hq:w.quoted_.length=w.text_.length)(hn:w.text_.length≤1000000)(i:Nat)(hi:i<w.text_.length)(l7:Str)(l3:List Redir)(again8:(Int×Str)→Option Str):
 ∀ (n e:Nat),i≤e→e≤w.text_.length→w.text_.length-e<n→(∀j,i≤j→j<e→w.quoted_[j]?=w.quoted_[i]?)→
  ∃m:Nat,i<m∧m≤w.text_.length∧(∀j,i≤j→j<m→w.quoted_[j]?=w.quoted_[i]?)∧(m<w.text_.length→w.quoted_[m]?≠w.quoted_[i]?)∧
   iter (Z0y w (i:Int) l7 l3 again8) n (e:Int)=J5t w i l7 l3 again8 (m:Int)
 | 0,e,_,_,h,_=>by omega
 | n+1,e,h1,h2,h3,h4=>by
   show ∃m:Nat,i<m∧m≤w.text_.length∧(∀j,i≤j→j<m→w.quoted_[j]?=w.quoted_[i]?)∧(m<w.text_.length→w.quoted_[m]?≠w.quoted_[i]?)∧Z0y w (i:Int) l7 l3 again8 (iter (Z0y w (i:Int) l7 l3 again8) n) (e:Int)=_
   have hs:∀j,j<w.text_.length→∃h:j<w.quoted_.length,w.quoted_[j]?=some w.quoted_[j]:=fun j hj=>⟨by omega,List.getElem?_eq_getElem (by omega)⟩
   rw[Z0y]
   by_cases hc:e<w.text_.length
   ·rw[decide_eq_true (p:=((e:Int)<(w.text_.length:Int))) (by omega),Q0g,Q0g,Q2d (by omega),Option.bind_some,Q2d (by omega),Option.bind_some,Bool.true_and]
    by_cases hx:w.quoted_[e]?=w.quoted_[i]?
    ·have hy:w.quoted_[e]=w.quoted_[i]:=by
      rw[List.getElem?_eq_getElem (by omega),List.getElem?_eq_getElem (by omega)]at hx
      exact Option.some.inj hx
     rw[decide_eq_true (by rw[hy]),Q0e,Q0r (by omega) (by omega)]
     exact X0q w hq hn i hi l7 l3 again8 n (e+1) (by omega) (by omega) (by omega) (fun j a b=>by
      by_cases hj:j=e
      ·subst hj;exact hx
      exact h4 j a (by omega))
    have hy:¬ ((w.quoted_[e].toNat:Int)=(w.quoted_[i].toNat:Int)):=fun h=>hx (by
     rw[List.getElem?_eq_getElem (by omega),List.getElem?_eq_getElem (by omega)]
     rw[UInt8.toNat_inj.1 (Int.ofNat_inj.1 h)])
    rw[decide_eq_false hy,Q0c]
    refine⟨e,?_,h2,h4,fun _=>hx,?_⟩
    ·rcases Nat.lt_or_eq_of_le h1 with h|h
     ·exact h
     subst h;exact absurd rfl hx
    rw[J5t,Q2d (show i<w.quoted_.length by omega)]
   rw[decide_eq_false (p:=((e:Int)<(w.text_.length:Int))) (by omega)]
   refine⟨e,by omega,h2,h4,fun h=>absurd h hc,?_⟩
   rw[J5t]
   rfl
theorem K2q(q:Str)(x:UInt8)(i m:Nat)(hm:m≤q.length)(h:∀j,i≤j→j<m→q[j]?=some x)(him:i≤m):q.drop i=List.replicate (m-i) x++q.drop m:=by
 apply List.ext_getElem?
 intro k
 rw[List.getElem?_drop]
 by_cases hk:k<m-i
 ·rw[List.getElem?_append_left (by rw[List.length_replicate];exact hk),List.getElem?_replicate,if_pos hk,h (i+k) (by omega) (by omega)]
 rw[List.getElem?_append_right (by rw[List.length_replicate];omega),List.length_replicate,List.getElem?_drop]
 congr 1
 omega
theorem Z2r:∀ (o:Bool) (t q:Str),(qrun o t q).length≤4 * t.length+1
 | o,[],q=>by cases o<;>cases q<;>simp[qrun]
 | o,c::t,[]=>by cases o<;>simp[qrun]
 | o,c::t,x::q=>by
   have h1:=Z2r true t q
   have h2:=Z2r false t q
   rw[qrun]
   cases decide (B x=49)<;>cases o<;>cases decide (B c=39)<;>simp<;>omega
theorem J5m(w:Word)(hq:w.quoted_.length=w.text_.length)(hn:w.text_.length≤1000000)(l3:List Redir):
 ∀ (n i:Nat) (l7:Str),i≤w.text_.length→w.text_.length-i<n→l7.length+(qrun false (w.text_.drop i) (w.quoted_.drop i)).length≤1000000000→
  iter (Q8u w l3) n ((i:Int),l7)=some (l7++qrun false (w.text_.drop i) (w.quoted_.drop i))
 | 0,i,_,_,h,_=>by omega
 | n+1,i,l7,h1,h2,h3=>by
   show Q8u w l3 (iter (Q8u w l3) n) ((i:Int),l7)=_
   rw[Q8u]
   by_cases hc:i<w.text_.length
   ·rw[decide_eq_true (by omega),Q0e]
    obtain⟨m,m1,m2,m3,m4,m5⟩:=X0q w hq hn i hc l7 l3 (iter (Q8u w l3) n) BIG i (Nat.le_refl _) (by omega) (by unfold BIG;omega) (fun j a b=>by omega)
    rw[m5,J5t]
    have hgi:w.quoted_[i]?=some (w.quoted_[i]'(by omega)):=List.getElem?_eq_getElem (by omega)
    have hr:=K2q w.quoted_ (w.quoted_[i]'(by omega)) i m (by omega) (fun j a b=>by rw[m3 j a b,hgi]) (by omega)
    have ht:w.text_.drop i=(w.text_.drop i).take (m-i)++w.text_.drop m:=by
     have:=(List.take_append_drop (m-i) (w.text_.drop i)).symm
     rw[List.drop_drop,show i+(m-i)=m by omega]at this
     exact this
    have hlen:((w.text_.drop i).take (m-i)).length=m-i:=by rw[List.length_take,List.length_drop];omega
    have hsl:Q1o w.text_ (i:Int) (m:Int)=some ((w.text_.drop i).take (m-i)):=by
     rw[Q1o,if_pos (by omega)]
     rfl
    rw[hsl,Option.bind_some,Q2d (by omega),Option.bind_some]
    generalize hT:(w.text_.drop i).take (m-i)=T at *
    have hB:(((w.quoted_[i]'(by omega)).toNat:Nat):Int)=B (w.quoted_[i]'(by omega)):=rfl
    rw[hB]
    generalize hX:(w.quoted_[i]'(by omega))=X at *
    have ih:=fun l h=>J5m w hq hn l3 n m l m2 (by omega) h
    by_cases hx:B X=49
    ·have hX49:X=49:=b49 hx
     have hhead:∀y,(w.quoted_.drop m).head?=some y→B y≠49:=fun y hy=>by
      rw[List.head?_drop]at hy
      by_cases hm:m<w.text_.length
      ·have:=m4 hm
       rw[hgi,hy]at this
       intro hb
       apply this
       rw[b49 hb,hX49]
      rw[List.getElem?_eq_none (by omega)]at hy
      exact absurd hy (by simp)
     have hq1:qrun false (w.text_.drop i) (w.quoted_.drop i)=39::(dbl T++39::qrun false (w.text_.drop m) (w.quoted_.drop m)):=by
      rw[ht,hr,hX49,←X1o T (m-i) _ _ hlen.symm hhead]
      have hT1:T≠[]:=fun h=>by rw[h]at hlen;simp at hlen;omega
      have hmi:m-i=(m-i-1)+1:=by omega
      rw[hmi,List.replicate_succ,List.cons_append]
      cases T with
      | nil=>exact absurd rfl hT1
      | cons c T=>
        rw[List.cons_append,qrun,qrun]
        rfl
     rw[hq1]at h3 ⊢
     simp only[List.length_cons,List.length_append]at h3
     have hd:=X1p T
     rw[decide_eq_true hx,Q0e,Z4z (by omega),Option.bind_some,Q2q (by simp;omega),Option.bind_some,Q2q (by simp;omega),Option.bind_some,Q8x _ _ _ (by simp) (by simp;omega),Option.bind_some,ih _ (by simp;omega)]
     simp
    have hq1:qrun false (w.text_.drop i) (w.quoted_.drop i)=T++qrun false (w.text_.drop m) (w.quoted_.drop m):=by
     rw[ht,hr,J6a T X (m-i) _ _ hx hlen.symm]
    rw[hq1]at h3 ⊢
    simp only[List.length_append]at h3
    rw[decide_eq_false hx,Q0c,Q8x _ _ _ (by simp) (by simp;omega),Option.bind_some,ih _ (by simp;omega)]
    simp
   rw[decide_eq_false (by omega),Q0c,List.drop_eq_nil_of_le (by omega),List.drop_eq_nil_of_le (by omega)]
   rw[qrun]
   ·simp
   simp
theorem X5x(w:Word)(hq:w.quoted_.length=w.text_.length)(hn:w.text_.length≤1000000):App (pd:=pend) (ok:=okD) (F190 w) (Z5j w.text_ w.quoted_):=by
 intro b l _ h
 unfold sz LIM at h
 simp only at h
 have hj:∀x:Str,x.length+(qrun false w.text_ w.quoted_).length≤1000000000→Z0x w l x=some (x++qrun false w.text_ w.quoted_):=fun x hx=>by
  rw[Z0x]
  exact J5m w hq hn l BIG 0 x (Nat.zero_le _) (by unfold BIG;omega) hx
 rw[F190]
 unfold Z5j at h ⊢
 by_cases ht:w.text_=[]
 ·have e:qrun false w.text_ w.quoted_=[]:=by
   rw[ht,show w.quoted_=[] from List.eq_nil_of_length_eq_zero (by rw[hq,ht];rfl)]
   rfl
  rw[decide_eq_true ht,Q0e]at h ⊢
  rw[Q0e,Q8x _ _ _ (by simp) (by simp at h ⊢;omega),Option.bind_some,hj _ (by rw[e];simp at h ⊢;omega),e]
  simp
 rw[decide_eq_false ht,Q0c]at h ⊢
 rw[Q0c]
 exact hj b (by omega)
end Go.Abs.U48
namespace Go.Abs.U48
open Go Go.Proofs
theorem Q1g{α:Type}{l r:List α}{u:α}{i:Nat}(h:l.drop i=u::r):u∈l:=List.mem_of_mem_drop (i:=i) (by rw[h];exact List.mem_cons_self ..)
theorem pos0{i:Nat}(h:i≠0):decide ((0:Int)<(i:Int))=true:=decide_eq_true (by omega)
theorem zer0:decide ((0:Int)<((0:Nat):Int))=false:=rfl
theorem J3w{w66:Cmd→Str→List Redir→Option (Str×List Redir)}(l:List Cmd)(hl:l.length≤1000000)(h:∀c∈l,PS (w66 c) (pC c) (10000 * nC c-100)):PS (F35 w66 l) (pIts l) (10000 * nCs l):=by
 delta F35
 refine Sim.loop l (fun _ r=>pIts r) (fun r=>10000 * nCs r) hl (fun i u r again hi hd hx hdec hag=>?_) (fun again hdec=>?_)
 ·simp only[J6t,hdec,hx,cond_true,Option.bind_some]
  have:=Q2c u
  exact Sim.w (Sim.bind (h u (Q1g hd)) (Sim.bind J5i hag)) (fun st=>by rw[pIts])
 simp only[J6t,hdec,cond_false]
 exact Sim.w Sim.id (fun st=>by rw[pIts])
theorem Z3d{w66:Cmd→Str→List Redir→Option (Str×List Redir)}(l:List Cmd)(s:Str)(hs:s.length≤50)(hl:l.length≤1000000)(h:∀c∈l,PS (w66 c) (pC c) (10000 * nC c-100)):PS (F102 w66 l s) (pJ l s true) (10000 * nCs l):=by
 delta F102
 refine Sim.loop l (fun f r=>pJ r s f) (fun r=>10000 * nCs r) hl (fun i u r again hi hd hx hdec hag=>?_) (fun again hdec=>?_)
 ·have hn:=Q2c u
  by_cases h0:i=0
  ·subst h0
   simp only[Z5g,hdec,hx,zer0,cond_true,cond_false,Option.bind_some]
   exact Sim.w (Sim.bind (h u (Q1g hd)) hag) (fun st=>by rw[pJ];rfl)
  simp only[Z5g,hdec,hx,pos0 h0,cond_true,cond_false,Option.bind_some]
  exact Sim.w (Sim.put (Q0m [s]) (Sim.bind (h u (Q1g hd)) hag)) (fun st=>by rw[pJ,decide_eq_false h0];simp only[List.flatten_cons,List.flatten_nil,List.append_nil];rfl)
 simp only[Z5g,hdec,cond_false]
 exact Sim.w Sim.id (fun st=>by rw[pJ])
theorem Z3a{w152:Word→Str→List Redir→Option (Str×List Redir)}(l:List Word)(hl:l.length≤1000000)(h:∀c∈l,PS (w152 c) (pW c) (10000 * nW c-100)):PS (F153 w152 l) (pSep l [32] false) (10000 * nWs l):=by
 delta F153
 refine Sim.loop l (fun _ r=>pSep r [32] false) (fun r=>10000 * nWs r) hl (fun i u r again hi hd hx hdec hag=>?_) (fun again hdec=>?_)
 ·simp only[Z9g,hdec,hx,cond_true,Option.bind_some]
  have:=Q3y u
  exact Sim.w (Sim.put (Q0m [[32]]) (Sim.bind (h u (Q1g hd)) hag)) (fun st=>by rw[pSep];rfl)
 simp only[Z9g,hdec,cond_false]
 exact Sim.w Sim.id (fun st=>by rw[pSep])
theorem Z9c{w152:Word→Str→List Redir→Option (Str×List Redir)}(o:Str)(l:List Word)(s c:Str)(hs:s.length≤50)(hl:l.length≤1000000)(h:∀c∈l,PS (w152 c) (pW c) (10000 * nW c-100)):
 PS (F191 w152 o l s c) (fun st=>put c (pSep l s true (put o st))) (o.length+(10000 * nWs l+c.length)):=by
 delta F191
 refine Sim.weak (Sim.put (Q0m [o]) (Sim.loop (body:=Z0w l s w152 c) l (fun f r st=>put c (pSep r s f st)) (fun r=>10000 * nWs r+c.length) hl (fun i u r again hi hd hx hdec hag=>?_) (fun again hdec=>?_))) (fun st=>?_) ?_
 ·have hn:=Q3y u
  by_cases h0:i=0
  ·subst h0
   simp only[Z0w,hdec,hx,zer0,cond_true,cond_false,Option.bind_some]
   exact Sim.w (Sim.bind (h u (Q1g hd)) hag) (fun st=>by rw[pSep];rfl)
  simp only[Z0w,hdec,hx,pos0 h0,cond_true,cond_false,Option.bind_some]
  exact Sim.w (Sim.put (Q0m [s]) (Sim.bind (h u (Q1g hd)) hag)) (fun st=>by rw[pSep,decide_eq_false h0];simp only[List.flatten_cons,List.flatten_nil,List.append_nil];rfl)
 ·simp only[Z0w,hdec,cond_false]
  exact Sim.w (Sim.put (Q0m [c]) Sim.id) (fun st=>by rw[pSep];simp only[List.flatten_cons,List.flatten_nil,List.append_nil])
 ·simp only[List.flatten_cons,List.flatten_nil,List.append_nil]
 simp only[List.flatten_cons,List.flatten_nil,List.append_nil]
 omega
theorem Q9y{w66:Cmd→Str→List Redir→Option (Str×List Redir)}(o:Str)(l:List Cmd)(c:Str)(hl:l.length≤1000000)(h:∀c∈l,PS (w66 c) (pC c) (10000 * nC c-100)):
 PS (F104 w66 o l c) (fun st=>put c (pIts l (nl (put o st)))) (o.length+(2+(10000 * nCs l+c.length))):=by
 delta F104
 refine Sim.weak (Sim.put (Q0m [o]) (Sim.bind J5i (Sim.bind (J3w l hl h) (Sim.put (Q0m [c]) Sim.id)))) (fun st=>?_) ?_
 ·simp only[List.flatten_cons,List.flatten_nil,List.append_nil]
 simp only[List.flatten_cons,List.flatten_nil,List.append_nil]
 omega
theorem Y0d:∀k:Fin 64,Lib.decDigits k.val=dig (k.val:Int):=by decide +kernel
theorem Z2x(n:Int)(h0:0≤n)(h1:n<64):L_Itoa n=some (dig n):=by
 rw[L_Itoa,if_pos ⟨h0,by omega⟩]
 have:=Y0d ⟨n.toNat,by omega⟩
 simp only at this
 rw[this,Int.toNat_of_nonneg h0]
theorem Q8o(n:Int):(dig n).length≤2:=by
 unfold dig
 cases decide (n<10)<;>simp
theorem X1z(n u:Int):(brk n u).length≤4:=by
 have:=Q8o n
 unfold brk
 cases decide (n=u)<;>simp
 omega
theorem J4c(n u:Int)(h0:0≤n)(h1:n<64):F188 n u=some (brk n u):=by
 have:=Q8o n
 rw[F188,brk]
 cases decide (n=u)with
 | true=>rfl
 | false=>rw[Q0c,Q0c,Z2x n h0 h1,Option.bind_some,Q2q (by simp;omega),Option.bind_some,Q2q (by simp;omega)];rfl
theorem Sim.hold{r:Redir}(hr:r.word_.text_.length≤2000){k:Str→List Redir→Option (Str×List Redir)}{g:St→St}{c:Nat}(h:PS k g c):
 PS (fun b l=>(appO 120 l [r]).bind fun o=>k b o) (fun st=>g (Go.Abs.U48.wait (r.word_.text_++(mark r.word_.text_++[10])) st)) ((r.word_.text_++(mark r.word_.text_++[10])).length+c):=by
 intro b l k1 k2
 have hp:=Z7v l
 unfold sz LIM at k2
 simp only at k2
 have ha:appO 120 l [r]=some (l++[r]):=if_pos (by simp;omega)
 have hpe:pend (l++[r])=pend l++(r.word_.text_++(mark r.word_.text_++[10])):=by rw[X3z,Z3x,show pend []=[] from rfl,List.append_nil]
 obtain⟨l',e1,e2,e3,e4⟩:=h b (l++[r]) (fun x hx=>by
  rcases List.mem_append.1 hx with hx|hx
  ·exact k1 x hx
  rw[List.mem_singleton.1 hx];exact hr) (by unfold sz LIM;rw[hpe];simp only[List.length_append]at k2 ⊢;omega)
 rw[hpe]at e1 e2 e4
 refine⟨l',?_,e2,e3,?_⟩
 ·show(appO 120 l [r]).bind _=_
  rw[ha,Option.bind_some]
  exact e1
 refine Nat.le_trans e4 ?_
 unfold sz
 simp only[List.length_append]
 omega
theorem K2r{r:Redir}(h:rR r=true):(0≤r.fd_∧r.fd_<64)∧(0≤r.from_∧r.from_<64)∧(r.kind_=1∨r.kind_=2∨r.kind_=3∨r.kind_=5∨r.kind_=6∨r.kind_=4):=by
 rw[X0a]at h
 cases e:(((((decide (r.fd_<0)||decide (64≤r.fd_))||decide (r.from_<0))||decide (64≤r.from_))||(!decide (r.kind_=5)&&!decide (r.from_=0)))||(!decide (r.kind_=4)&&r.raw_))with
 | true=>rw[e,Q0e]at h;exact absurd h (by simp)
 | false=>
   rw[e,Q0c]at h
   simp only[Bool.or_eq_false_iff,decide_eq_false_iff_not]at e
   refine⟨by omega,by omega,?_⟩
   by_cases k1:r.kind_=1
   ·exact .inl k1
   by_cases k2:r.kind_=2
   ·exact .inr (.inl k2)
   by_cases k3:r.kind_=3
   ·exact .inr (.inr (.inl k3))
   by_cases k5:r.kind_=5
   ·exact .inr (.inr (.inr (.inl k5)))
   by_cases k6:r.kind_=6
   ·exact .inr (.inr (.inr (.inr (.inl k6))))
   by_cases k4:r.kind_=4
   ·exact .inr (.inr (.inr (.inr (.inr k4))))
   rw[decide_eq_false k1,decide_eq_false k2,decide_eq_false k3,decide_eq_false k5,decide_eq_false k6,decide_eq_false k4]at h
   exact absurd h (by simp)
theorem X6b{w152:Word→Str→List Redir→Option (Str×List Redir)}(r:Redir)(hr:rR r=true)(ht:r.word_.text_.length≤2000)(h:(r.kind_=1∨r.kind_=2∨r.kind_=3)→PS (w152 r.word_) (pW r.word_) (10000 * nW r.word_-100)):PS (F151 w152 r) (pR r) (10000 * nR r-50):=by
 obtain⟨⟨f1,f2⟩,⟨g1,g2⟩,hk⟩:=K2r hr
 have hn:=Q8m r
 have hw:=Q3y r.word_
 have hm:=J5l r.word_.text_
 have d1:=Q8o r.fd_
 have d2:=Q8o r.from_
 have b0:=X1z r.fd_ 0
 have b1:=X1z r.fd_ 1
 rw[funext (K2z r)]
 delta F151
 by_cases k1:r.kind_=1
 ·simp only[decide_eq_true k1,cond_true,J4c _ _ f1 f2,Option.bind_some]
  exact Sim.w (Sim.put (Q0m _) (Sim.bind (h (.inl k1)) Sim.id))
 by_cases k2:r.kind_=2
 ·simp only[decide_eq_false k1,decide_eq_true k2,cond_true,cond_false,J4c _ _ f1 f2,Option.bind_some]
  exact Sim.w (Sim.put (Q0m _) (Sim.bind (h (.inr (.inl k2))) Sim.id))
 by_cases k3:r.kind_=3
 ·simp only[decide_eq_false k1,decide_eq_false k2,decide_eq_true k3,cond_true,cond_false,J4c _ _ f1 f2,Option.bind_some]
  exact Sim.w (Sim.put (Q0m _) (Sim.bind (h (.inr (.inr k3))) Sim.id))
 by_cases k5:r.kind_=5
 ·simp only[decide_eq_false k1,decide_eq_false k2,decide_eq_false k3,decide_eq_true k5,cond_true,cond_false,Z2x _ f1 f2,Z2x _ g1 g2,Option.bind_some]
  exact Sim.w (Sim.put (Q0m _) Sim.id)
 by_cases k6:r.kind_=6
 ·simp only[decide_eq_false k1,decide_eq_false k2,decide_eq_false k3,decide_eq_false k5,decide_eq_true k6,cond_true,cond_false,Z2x _ f1 f2,Option.bind_some]
  exact Sim.w (Sim.put (Q0m _) Sim.id)
 have k4:r.kind_=4:=by omega
 simp only[decide_eq_false k1,decide_eq_false k2,decide_eq_false k3,decide_eq_false k5,decide_eq_false k6,decide_eq_true k4,cond_true,cond_false,X3l _ (show r.word_.text_.length≤1000000 by omega),Option.bind_some]
 have hq:(qraw r.raw_).length≤1:=by unfold qraw;cases r.raw_<;>simp
 exact Sim.w (Sim.hold ht (Sim.put (Q0m [[60,60],qraw r.raw_,mark r.word_.text_,qraw r.raw_]) Sim.id))
theorem Z3c{w152:Word→Str→List Redir→Option (Str×List Redir)}(l:List Redir)(hl:l.length≤1000000)(h:∀r∈l,PS (F151 w152 r) (pR r) (10000 * nR r-50)):PS (F105 w152 l) (pRs l false) (10000 * nRs l):=by
 delta F105
 refine Sim.loop l (fun _ r=>pRs r false) (fun r=>10000 * nRs r) hl (fun i u r again hi hd hx hdec hag=>?_) (fun again hdec=>?_)
 ·simp only[Z9k,hdec,hx,cond_true,Option.bind_some]
  have:=Q8m u
  have:=Q3y u.word_
  exact Sim.w (Sim.put (Q0m [[32]]) (Sim.bind (h u (Q1g hd)) hag)) (fun st=>by rw[pRs];rfl)
 simp only[Z9k,hdec,cond_false]
 exact Sim.w Sim.id (fun st=>by rw[pRs])
theorem X6f{w152:Word→Str→List Redir→Option (Str×List Redir)}(c:Cmd)(hl:c.words_.length≤1000000)(hl2:c.redirs_.length≤1000000)(h:∀x∈c.words_,PS (w152 x) (pW x) (10000 * nW x-100))(hr:∀r∈c.redirs_,PS (F151 w152 r) (pR r) (10000 * nR r-50)):
 PS (F106 w152 c) (fun st=>pRs c.redirs_ (decide (c.words_=[])) (pSep c.words_ [32] true st)) (10000 * nWs c.words_+10000 * nRs c.redirs_):=by
 delta F106
 refine Sim.loop (body:=Q7l c w152) c.words_ (fun f r st=>pRs c.redirs_ (decide (c.words_=[])) (pSep r [32] f st)) (fun r=>10000 * nWs r+10000 * nRs c.redirs_) hl (fun i u r again hi hd hx hdec hag=>?_) (fun again hdec=>?_)
 ·have hn:=Q3y u
  by_cases h0:i=0
  ·subst h0
   simp only[Q7l,hdec,hx,zer0,cond_true,cond_false,Option.bind_some]
   exact Sim.w (Sim.bind (h u (Q1g hd)) hag) (fun st=>by rw[pSep];rfl)
  simp only[Q7l,hdec,hx,pos0 h0,cond_true,cond_false,Option.bind_some]
  exact Sim.w (Sim.put (Q0m [[32]]) (Sim.bind (h u (Q1g hd)) hag)) (fun st=>by rw[pSep,decide_eq_false h0];rfl)
 have e0:decide ((c.words_.length:Int)=0)=decide (c.words_=[]):=decide_eq_decide.2 (by rw[←List.length_eq_zero_iff];omega)
 by_cases hw:c.words_=[]
 ·cases hrs:c.redirs_ with
  | nil=>
    simp only[Q7l,hdec,cond_false,e0,decide_eq_true hw,hrs,List.length_nil]
    refine Sim.weak (f:=fun b d=>(F105 w152 [] b d).bind fun(o,m)=>some (o,m)) (Sim.bind (Z3c (w152:=w152) [] (by simp) (fun r hr=>absurd hr List.not_mem_nil)) Sim.id) (fun st=>by rw[pSep,pRs,pRs]) (Nat.zero_le _)
  | cons d r=>
    have e1:decide ((0:Int)<((d::r).length:Int))=true:=decide_eq_true (by rw[List.length_cons];omega)
    have e2:Q3z (d::r) 1 ((d::r).length:Int)=some r:=by
     rw[Q3z,if_pos (by simp;omega)]
     simp
    rw[hrs]at hr hl2
    simp only[Q7l,hdec,cond_false,e0,decide_eq_true hw,hrs,e1,Bool.and_self,cond_true,Q4d,e2,Option.bind_some]
    refine Sim.weak (Sim.bind (hr d (List.mem_cons_self ..)) (Sim.bind (Z3c r (by simp at hl2;omega) (fun x hx=>hr x (List.mem_cons_of_mem _ hx))) Sim.id)) (fun st=>by rw[pSep,pRs];rfl) ?_
    rw[nRs,nWs]
    omega
 simp only[Q7l,hdec,cond_false,e0,decide_eq_false hw,Bool.false_and]
 exact Sim.weak (Sim.bind (Z3c c.redirs_ hl2 hr) Sim.id) (fun st=>by rw[pSep]) (by rw[nWs];omega)
end Go.Abs.U48
namespace Go.Abs.U48
open Go Go.Proofs
theorem Q6b{c:Cmd}(h:rC c=true):(∀x∈c.words_,rW x=true)∧(∀r∈c.redirs_,rR r=true)∧(c.kind_≠17→∀x∈c.kids_,rC x=true)∧(c.kind_=17→∀x∈c.kids_,Q7w x=true)∧
 Q1v c.kind_ c.name_ c.words_.length c.redirs_.length c.kids_.length=true:=by
 rw[Q6c]at h
 simp only[Bool.and_eq_true]at h
 obtain⟨⟨⟨h1,h2⟩,h3⟩,h4⟩:=h
 have hup:∀ (m:Int) (l:List Cmd),(l.all fun c=>lvl m c.kind_&&rC c)=true→∀x∈l,rC x=true:=fun m l h x hx=>by
  have:=List.all_eq_true.1 h x hx
  rw[Bool.and_eq_true]at this
  exact this.2
 refine⟨List.all_eq_true.1 h2,List.all_eq_true.1 h3,fun hk=>?_,fun hk=>?_,h1⟩
 ·by_cases k1:c.kind_=1
  ·rw[k1,sh1]at h1
   simp only[Bool.and_eq_true,decide_eq_true_eq]at h1
   intro x hx
   rw[List.eq_nil_of_length_eq_zero h1.2.2]at hx
   exact absurd hx List.not_mem_nil
  rw[decide_eq_false k1,Q0c]at h4
  cases k8:(decide (c.kind_=8)||decide (c.kind_=11))with
  | true=>
    rw[k8,Q0e]at h4
    cases hks:c.kids_ with
    | nil=>intro x hx;exact absurd hx List.not_mem_nil
    | cons a r=>
      rw[hks,rIf,Q4b]at h4
      simp only[Bool.and_eq_true]at h4
      intro x hx
      rcases List.mem_cons.1 hx with rfl|hx
      ·exact h4.1.2
      exact hup 1 r h4.2 x hx
  | false=>
  rw[k8,Q0c]at h4
  cases k12:(decide (c.kind_=12)||decide (c.kind_=15))with
  | true=>rw[k12,Q0e]at h4;exact hup 4 _ h4
  | false=>
  rw[k12,Q0c]at h4
  cases k5:(decide (c.kind_=5)||decide (c.kind_=6))with
  | true=>
    rw[k5,Q0e]at h4
    cases hks:c.kids_ with
    | nil=>intro x hx;exact absurd hx List.not_mem_nil
    | cons a r=>
      rw[hks,rAnd,Q4b]at h4
      simp only[Bool.and_eq_true]at h4
      intro x hx
      rcases List.mem_cons.1 hx with rfl|hx
      ·exact h4.1.2
      exact hup 2 r h4.2 x hx
  | false=>
  rw[k5,Q0c]at h4
  cases k14:decide (c.kind_=14)with
  | true=>rw[k14,Q0e]at h4;exact hup 3 _ h4
  | false=>
  rw[k14,Q0c,decide_eq_false hk,Q0c]at h4
  exact hup 1 _ h4
 rw[hk]at h4
 exact List.all_eq_true.1 h4
theorem Z2q{w:Word}(h:rW w=true):(∀x∈w.words_,rW x=true)∧(∀x∈w.cmd_,rC x=true)∧(w.kind_=1→w.quoted_.length=w.text_.length)∧
 (w.kind_=1∨w.kind_=2∨w.kind_=3∨w.kind_=7∨w.kind_=5∨w.kind_=4∨w.kind_=6):=by
 rw[J7m]at h
 have no:∀ {n m:Nat} {ws:List Word} {cs:List Cmd},ws.length+cs.length=0→(∀x∈ws,rW x=true)∧(∀x∈cs,rC x=true):=fun {n m ws cs} h=>by
  rw[List.eq_nil_of_length_eq_zero (show ws.length=0 by omega),List.eq_nil_of_length_eq_zero (show cs.length=0 by omega)]
  exact⟨fun x hx=>absurd hx List.not_mem_nil,fun x hx=>absurd hx List.not_mem_nil⟩
 have nc:∀ {cs:List Cmd},cs.length=0→(∀x∈cs,rC x=true):=fun {cs} h=>by
  rw[List.eq_nil_of_length_eq_zero h]
  exact fun x hx=>absurd hx List.not_mem_nil
 by_cases k1:w.kind_=1
 ·rw[decide_eq_true k1,Q0e]at h
  simp only[Bool.and_eq_true,decide_eq_true_eq,Z5i]at h
  exact⟨(no (n:=0) (m:=0) h.2).1,(no (n:=0) (m:=0) h.2).2,fun _=>h.1.1,.inl k1⟩
 rw[decide_eq_false k1,Q0c]at h
 cases k2:(decide (w.kind_=2)||decide (w.kind_=3))with
 | true=>
   rw[k2,Q0e]at h
   simp only[Bool.and_eq_true,Bool.or_eq_true,decide_eq_true_eq]at h k2
   exact⟨(no (n:=0) (m:=0) h.2).1,(no (n:=0) (m:=0) h.2).2,fun hk=>absurd hk k1,by omega⟩
 | false=>
 rw[k2,Q0c]at h
 by_cases k7:w.kind_=7
 ·rw[decide_eq_true k7,Q0e]at h
  simp only[Bool.and_eq_true,decide_eq_true_eq]at h
  exact⟨List.all_eq_true.1 h.2,nc h.1.2,fun hk=>absurd hk k1,by omega⟩
 rw[decide_eq_false k7,Q0c]at h
 by_cases k5:w.kind_=5
 ·rw[decide_eq_true k5,Q0e]at h
  simp only[Bool.and_eq_true,decide_eq_true_eq]at h
  exact⟨List.all_eq_true.1 h.2,nc h.1.2,fun hk=>absurd hk k1,by omega⟩
 rw[decide_eq_false k5,Q0c]at h
 by_cases k6:w.kind_=6
 ·rw[decide_eq_true k6,Q0e]at h
  simp only[Bool.and_eq_true,decide_eq_true_eq,List.all_eq_true]at h
  refine⟨fun x hx=>?_,fun x hx=>(h.2 x hx).2,fun hk=>absurd hk k1,by omega⟩
  rw[List.eq_nil_of_length_eq_zero h.1.2]at hx
  exact absurd hx List.not_mem_nil
 rw[decide_eq_false k6,Q0c]at h
 by_cases k4:w.kind_=4
 ·rw[decide_eq_true k4,Q0e]at h
  simp only[Bool.and_eq_true,decide_eq_true_eq]at h
  exact⟨List.all_eq_true.1 h.2.2,nc h.2.1.2,fun hk=>absurd hk k1,by omega⟩
 rw[decide_eq_false k4]at h
 exact absurd h (by simp)
theorem rR_w{r:Redir}(h:rR r=true)(hk:r.kind_=1∨r.kind_=2∨r.kind_=3):rW r.word_=true:=by
 rw[X0a]at h
 have e:(decide (r.kind_=1)||(decide (r.kind_=2)||decide (r.kind_=3)))=true:=by
  simp only[Bool.or_eq_true,decide_eq_true_eq]
  exact hk
 rw[e,Q0e]at h
 cases e2:(((((decide (r.fd_<0)||decide (64≤r.fd_))||decide (r.from_<0))||decide (64≤r.from_))||(!decide (r.kind_=5)&&!decide (r.from_=0)))||(!decide (r.kind_=4)&&r.raw_))with
 | true=>rw[e2,Q0e]at h;exact absurd h (by simp)
 | false=>rw[e2,Q0c]at h;exact h
theorem Q6a{c:Cmd}(h:Q7w c=true):(∀x∈c.words_,rW x=true)∧(∀x∈c.kids_,rC x=true)∧0<c.words_.length:=by
 rw[Z7q]at h
 simp only[Bool.and_eq_true,List.all_eq_true,Bool.not_eq_true',decide_eq_false_iff_not]at h
 exact⟨h.1.2,fun x hx=>(h.2 x hx).2,by omega⟩
theorem Z5w{k:Int}{nm:Str}{w r n:Nat}(h:Q1v k nm w r n=true):k=14∨k=5∨k=6∨k=3∨k=7∨k=13∨k=9∨k=12∨k=1∨k=2∨k=8∨k=11∨k=10∨k=17∨k=15∨k=16:=by
 refine Classical.byContradiction fun hn=>?_
 simp only[not_or]at hn
 obtain⟨h14,h5,h6,h3,h7,h13,h9,h12,h1,h2,h8,h11,h10,h17,h15,h16⟩:=hn
 rw[Q1v,decide_eq_false h1,decide_eq_false h2,decide_eq_false h3,decide_eq_false h5,decide_eq_false h6,decide_eq_false h7,decide_eq_false h8,decide_eq_false h9,decide_eq_false h10,decide_eq_false h11,decide_eq_false h12,decide_eq_false h13,decide_eq_false h14,decide_eq_false h15,decide_eq_false h16,decide_eq_false h17]at h
 revert h
 cases decide (nm=[])<;>cases decide (0<r)<;>exact fun h=>Bool.noConfusion h
theorem J9q{nm:Str}{w r n:Nat}(h:Q1v 2 nm w r n=true):w=1∧n≤1∧r=0:=by
 rw[sh2]at h
 simp only[Bool.and_eq_true,decide_eq_true_eq]at h
 omega
theorem X3v{c:Cmd}(h:rC c=true)(hk:c.kind_=8∨c.kind_=11){a:Cmd}{r:List Cmd}(e:c.kids_=a::r):a.kind_=12:=by
 rw[Q6c]at h
 have e8:(decide (c.kind_=8)||decide (c.kind_=11))=true:=by
  simp only[Bool.or_eq_true,decide_eq_true_eq]
  exact hk
 rw[decide_eq_false (show ¬ c.kind_=1 by omega),Q0c,e8,Q0e,e,rIf]at h
 simp only[Bool.and_eq_true,decide_eq_true_eq]at h
 exact h.2.1.1.1
theorem one{α:Type}{l:List α}(h:l.length=1):∃a,l=[a]:=by
 rcases l with _|⟨a,_|⟨b,r⟩⟩<;>simp at h
 exact⟨a,rfl⟩
theorem X5z{w66:Cmd→Str→List Redir→Option (Str×List Redir)}{w152:Word→Str→List Redir→Option (Str×List Redir)}(c:Cmd)(hl:c.words_.length≤1000000)(hl2:c.kids_.length≤1000000)
 (hw:∀x∈c.words_,PS (w152 x) (pW x) (10000 * nW x-100)) (hkw:∀k∈c.kids_,k.words_.length≤1000000∧k.kids_.length≤1000000∧(∀x∈k.words_,PS (w152 x) (pW x) (10000 * nW x-100))∧(∀x∈k.kids_,PS (w66 x) (pC x) (10000 * nC x-100))):
 PS (F154 w66 w152 c) (fun st=>put [125] (pCs c.kids_ (nl (put [32,123] (pSep c.words_ [32] false (put [115,119,105,116,99,104] st)))))) (10000 * nWs c.words_+10000 * nCs c.kids_+20):=by
 delta F154
 refine Sim.weak (Sim.put (Q0m [[115,119,105,116,99,104]]) (Sim.bind (Z3a c.words_ hl hw) (Sim.put (Q0m [[32,123]]) (Sim.bind J5i (Sim.loop (body:=Z5f c w152 w66) c.kids_ (fun f r st=>put [125] (pCs r st)) (fun r=>10000 * nCs r+1) hl2 (fun i u r again hi hd hx hdec hag=>?_) (fun again hdec=>?_)))))) (fun st=>?_) ?_
 ·simp only[Z5f,hdec,hx,cond_true,Option.bind_some]
  obtain⟨a1,a2,a3,a4⟩:=hkw u (Q1g hd)
  have:=Q2c u
  exact Sim.w (Sim.put (Q0m [[99,97,115,101]]) (Sim.bind (Z3a u.words_ a1 a3) (Sim.bind J5i (Sim.bind (J3w u.kids_ a2 a4) hag)))) (fun st=>by rw[pCs,X6o];rfl)
 ·simp only[Z5f,hdec,cond_false]
  exact Sim.w (Sim.put (Q0m [[125]]) Sim.id) (fun st=>by rw[pCs];rfl)
 ·rfl
 simp only[List.flatten_cons,List.flatten_nil,List.append_nil,List.length_cons,List.length_nil]
 omega
theorem X6e{w66:Cmd→Str→List Redir→Option (Str×List Redir)}{w152:Word→Str→List Redir→Option (Str×List Redir)}(c:Cmd)(hc:rC c=true)(hnm:c.name_.length≤2000)(hl:c.words_.length≤1000000)(hl2:c.kids_.length≤1000000)
 (k0:¬ c.kind_=14∧¬ c.kind_=5∧¬ c.kind_=6∧¬ c.kind_=3∧¬ c.kind_=7∧¬ c.kind_=13∧¬ c.kind_=9∧¬ c.kind_=12∧¬ c.kind_=1)
 (hw:∀x∈c.words_,PS (w152 x) (pW x) (10000 * nW x-100)) (hk:c.kind_≠17→∀x∈c.kids_,PS (w66 x) (pC x) (10000 * nC x-100))
 (hkw:∀k∈c.kids_,k.words_.length≤1000000∧k.kids_.length≤1000000∧(c.kind_=17→∀x∈k.words_,PS (w152 x) (pW x) (10000 * nW x-100))∧(c.kind_=17∨k.kind_=12→∀x∈k.kids_,PS (w66 x) (pC x) (10000 * nC x-100))):
 PS (F107 w66 w152 c) (pC c) (10000 * nC c-100):=by
 obtain⟨n14,n5,n6,n3,n7,n13,n9,n12,n1⟩:=k0
 have hsh:=(Q6b hc).2.2.2.2
 have hkind:=Z5w hsh
 have hn:=Q2c c
 rw[funext (Q3x c)]
 delta F107
 simp only[decide_eq_false n14,decide_eq_false n5,decide_eq_false n6,decide_eq_false n3,decide_eq_false n7,decide_eq_false n13,decide_eq_false n9,decide_eq_false n12,decide_eq_false n1,cond_false]
 by_cases k2:c.kind_=2
 ·rw[k2]at hsh
  have h2:=J9q hsh
  obtain⟨u,hu⟩:=one h2.1
  have hk':=hk (by omega)
  rw[hu]at hw hn
  have hnu:=Q3y u
  rw[nWs,nWs]at hn
  simp only[decide_eq_true k2,cond_true,hu,Q4d,Option.bind_some]
  by_cases hz:c.kids_.length=0
  ·have e:decide ((0:Int)<(c.kids_.length:Int))=false:=decide_eq_false (by omega)
   simp only[e,decide_eq_true hz,cond_true,cond_false]
   exact Sim.w (Sim.put (Q0m [c.name_,[61]]) (Sim.bind (hw u (List.mem_cons_self ..)) (Sim.bind (Z3d c.kids_ [] (by simp) hl2 hk') Sim.id))) (fun st=>by rw[pSep,pSep];simp only[List.flatten_cons,List.flatten_nil,List.append_nil,cond_true])
  have e:decide ((0:Int)<(c.kids_.length:Int))=true:=decide_eq_true (by omega)
  simp only[e,decide_eq_false hz,cond_true,cond_false]
  exact Sim.w (Sim.put (Q0m [c.name_,[61]]) (Sim.bind (hw u (List.mem_cons_self ..)) (Sim.put (Q0m [[32]]) (Sim.bind (Z3d c.kids_ [] (by simp) hl2 hk') Sim.id)))) (fun st=>by rw[pSep,pSep];simp only[List.flatten_cons,List.flatten_nil,List.append_nil,cond_true])
 by_cases k8:c.kind_=8
 ·obtain⟨a,b,e⟩:=two (Z5x hsh (.inl k8))
  have hk':=hk (by omega)
  rw[e]at hk' hkw hn
  rw[nCs,nCs,nCs]at hn
  have ha:=hkw a (List.mem_cons_self ..)
  have hna:=Q2c a
  have hnb:=Q2c b
  simp only[decide_eq_false k2,decide_eq_true k8,cond_true,cond_false,e,Q4d,Option.bind_some,show lidx [a,b] 1=some b from rfl]
  exact Sim.w (Sim.bind (Q9y [105,102,40] a.kids_ [41,32] ha.2.1 (ha.2.2.2 (.inr (X3v hc (.inl k8) e)))) (Sim.bind (hk' b (by simp)) Sim.id)) (fun st=>by rw[pT,pJ,pJ,X8t];rfl)
 by_cases k11:c.kind_=11
 ·obtain⟨a,b,e⟩:=two (Z5x hsh (.inr (.inl k11)))
  have hk':=hk (by omega)
  rw[e]at hk' hkw hn
  rw[nCs,nCs,nCs]at hn
  have ha:=hkw a (List.mem_cons_self ..)
  have hna:=Q2c a
  have hnb:=Q2c b
  simp only[decide_eq_false k2,decide_eq_false k8,decide_eq_true k11,cond_true,cond_false,e,Q4d,Option.bind_some,show lidx [a,b] 1=some b from rfl]
  exact Sim.w (Sim.bind (Q9y [119,104,105,108,101,40] a.kids_ [41,32] ha.2.1 (ha.2.2.2 (.inr (X3v hc (.inr k11) e)))) (Sim.bind (hk' b (by simp)) Sim.id)) (fun st=>by rw[pT,pJ,pJ,X8t];rfl)
 by_cases k10:c.kind_=10
 ·simp only[decide_eq_false k2,decide_eq_false k8,decide_eq_false k11,decide_eq_true k10,cond_true,cond_false]
  exact Sim.w (Sim.put (Q0m [[102,111,114,40],c.name_,[32,105,110]]) (Sim.bind (Z3a c.words_ hl hw) (Sim.put (Q0m [[41,32]]) (Sim.bind (Z3d c.kids_ [] (by simp) hl2 (hk (by omega))) Sim.id))))
 by_cases k17:c.kind_=17
 ·simp only[decide_eq_false k2,decide_eq_false k8,decide_eq_false k11,decide_eq_false k10,decide_eq_true k17,cond_true,cond_false]
  exact Sim.w (Sim.bind (X5z c hl hl2 hw (fun k hkk=>⟨(hkw k hkk).1,(hkw k hkk).2.1,(hkw k hkk).2.2.1 k17,(hkw k hkk).2.2.2 (.inl k17)⟩)) Sim.id)
 by_cases k15:c.kind_=15
 ·by_cases hz:c.kids_.length=0
  ·have e:decide ((0:Int)<(c.kids_.length:Int))=false:=decide_eq_false (by omega)
   simp only[decide_eq_false k2,decide_eq_false k8,decide_eq_false k11,decide_eq_false k10,decide_eq_false k17,decide_eq_true k15,e,decide_eq_true hz,cond_true,cond_false]
   exact Sim.w (Sim.put (Q0m [[102,110,32],c.name_]) Sim.id)
  have e:decide ((0:Int)<(c.kids_.length:Int))=true:=decide_eq_true (by omega)
  simp only[decide_eq_false k2,decide_eq_false k8,decide_eq_false k11,decide_eq_false k10,decide_eq_false k17,decide_eq_true k15,e,decide_eq_false hz,cond_true,cond_false]
  exact Sim.w (Sim.put (Q0m [[102,110,32],c.name_]) (Sim.bind (Q9y [32,123] c.kids_ [125] hl2 (hk (by omega))) Sim.id)) (fun st=>by rw[Q2s];simp only[List.flatten_cons,List.flatten_nil,List.append_nil,List.append_assoc])
 have k16:c.kind_=16:=by omega
 simp only[decide_eq_false k2,decide_eq_false k8,decide_eq_false k11,decide_eq_false k10,decide_eq_false k17,decide_eq_false k15,decide_eq_true k16,cond_true,cond_false]
 exact Sim.w (Sim.put (Q0m [[126]]) (Sim.bind (Z3a c.words_ hl hw) Sim.id))
theorem K1d{w66:Cmd→Str→List Redir→Option (Str×List Redir)}{w152:Word→Str→List Redir→Option (Str×List Redir)}(c:Cmd)(hc:rC c=true)(hnm:c.name_.length≤2000)(hl:c.words_.length≤1000000)(hl2:c.kids_.length≤1000000)(hl3:c.redirs_.length≤1000000)
 (hw:∀x∈c.words_,PS (w152 x) (pW x) (10000 * nW x-100)) (hr:∀r∈c.redirs_,PS (F151 w152 r) (pR r) (10000 * nR r-50)) (hk:c.kind_≠17→∀x∈c.kids_,PS (w66 x) (pC x) (10000 * nC x-100))
 (hkw:∀k∈c.kids_,k.words_.length≤1000000∧k.kids_.length≤1000000∧(c.kind_=17→∀x∈k.words_,PS (w152 x) (pW x) (10000 * nW x-100))∧(c.kind_=17∨k.kind_=12→∀x∈k.kids_,PS (w66 x) (pC x) (10000 * nC x-100))):
 PS (F66 w66 w152 c) (pC c) (10000 * nC c-100):=by
 have hn:=Q2c c
 have f102:=fun(s:Str) (hs:s.length≤50) (h17:c.kind_≠17)=>Z3d c.kids_ s hs hl2 (hk h17)
 delta F66
 by_cases n14:c.kind_=14
 ·rw[funext (Q3x c)]
  simp only[decide_eq_true n14,cond_true]
  exact Sim.w (Sim.bind (f102 [] (by simp) (by omega)) (Sim.put (Q0m [[32,38]]) Sim.id))
 by_cases n5:c.kind_=5
 ·rw[funext (Q3x c)]
  simp only[decide_eq_false n14,decide_eq_true n5,cond_true,cond_false]
  exact Sim.w (Sim.bind (f102 [32,38,38,32] (by simp) (by omega)) Sim.id)
 by_cases n6:c.kind_=6
 ·rw[funext (Q3x c)]
  simp only[decide_eq_false n14,decide_eq_false n5,decide_eq_true n6,cond_true,cond_false]
  exact Sim.w (Sim.bind (f102 [32,124,124,32] (by simp) (by omega)) Sim.id)
 by_cases n3:c.kind_=3
 ·rw[funext (Q3x c)]
  simp only[decide_eq_false n14,decide_eq_false n5,decide_eq_false n6,decide_eq_true n3,cond_true,cond_false]
  exact Sim.w (Sim.bind (f102 [32,124,32] (by simp) (by omega)) Sim.id)
 by_cases n7:c.kind_=7
 ·rw[funext (Q3x c)]
  simp only[decide_eq_false n14,decide_eq_false n5,decide_eq_false n6,decide_eq_false n3,decide_eq_true n7,cond_true,cond_false]
  exact Sim.w (Sim.put (Q0m [[33,32]]) (Sim.bind (f102 [] (by simp) (by omega)) Sim.id))
 by_cases n13:c.kind_=13
 ·rw[funext (Q3x c)]
  simp only[decide_eq_false n14,decide_eq_false n5,decide_eq_false n6,decide_eq_false n3,decide_eq_false n7,decide_eq_true n13,cond_true,cond_false]
  exact Sim.w (Sim.put (Q0m [[64,32]]) (Sim.bind (f102 [] (by simp) (by omega)) Sim.id))
 by_cases n9:c.kind_=9
 ·rw[funext (Q3x c)]
  simp only[decide_eq_false n14,decide_eq_false n5,decide_eq_false n6,decide_eq_false n3,decide_eq_false n7,decide_eq_false n13,decide_eq_true n9,cond_true,cond_false]
  exact Sim.w (Sim.put (Q0m [[105,102,32,110,111,116,32]]) (Sim.bind (f102 [] (by simp) (by omega)) Sim.id))
 by_cases n12:c.kind_=12
 ·rw[funext (Q3x c)]
  simp only[decide_eq_false n14,decide_eq_false n5,decide_eq_false n6,decide_eq_false n3,decide_eq_false n7,decide_eq_false n13,decide_eq_false n9,decide_eq_true n12,cond_true,cond_false]
  exact Sim.w (Sim.bind (Q9y [123] c.kids_ [125] hl2 (hk (by omega))) (Sim.bind (Z3c c.redirs_ hl3 hr) Sim.id))
 by_cases n1:c.kind_=1
 ·rw[funext (Q3x c)]
  simp only[decide_eq_false n14,decide_eq_false n5,decide_eq_false n6,decide_eq_false n3,decide_eq_false n7,decide_eq_false n13,decide_eq_false n9,decide_eq_false n12,decide_eq_true n1,cond_true,cond_false]
  exact Sim.w (Sim.bind (X6f c hl hl3 hw hr) Sim.id)
 simp only[decide_eq_false n14,decide_eq_false n5,decide_eq_false n6,decide_eq_false n3,decide_eq_false n7,decide_eq_false n13,decide_eq_false n9,decide_eq_false n12,decide_eq_false n1,cond_false]
 exact Sim.w (Sim.bind (X6e c hc hnm hl hl2 ⟨n14,n5,n6,n3,n7,n13,n9,n12,n1⟩ hw hk hkw) Sim.id)
theorem X6a{w66:Cmd→Str→List Redir→Option (Str×List Redir)}{w152:Word→Str→List Redir→Option (Str×List Redir)}(w:Word)(hr:rW w=true)(ht:w.text_.length≤2000)(hl:w.words_.length≤1000000)(hl2:w.cmd_.length≤1000000)
 (hw:∀x∈w.words_,PS (w152 x) (pW x) (10000 * nW x-100)) (hk:∀x∈w.cmd_,PS (w66 x) (pC x) (10000 * nC x-100)):
 PS (F152 w66 w152 w) (pW w) (10000 * nW w-100):=by
 have hn:=Q3y w
 obtain⟨-,-,hq,hkind⟩:=Z2q hr
 rw[funext (K2y w)]
 delta F152
 by_cases k1:w.kind_=1
 ·simp only[decide_eq_true k1,cond_true]
  have hlen:(Z5j w.text_ w.quoted_).length≤8001:=by
   have:=Z2r false w.text_ w.quoted_
   unfold Z5j
   cases decide (w.text_=[])<;>simp<;>omega
  exact Sim.w (Sim.put (X5x w (hq k1) (by omega)) Sim.id)
 by_cases k2:w.kind_=2
 ·simp only[decide_eq_false k1,decide_eq_true k2,cond_true,cond_false]
  exact Sim.w (Sim.put (Q0m [[36],w.text_]) Sim.id)
 by_cases k3:w.kind_=3
 ·simp only[decide_eq_false k1,decide_eq_false k2,decide_eq_true k3,cond_true,cond_false]
  exact Sim.w (Sim.put (Q0m [[36,35],w.text_]) Sim.id)
 by_cases k7:w.kind_=7
 ·simp only[decide_eq_false k1,decide_eq_false k2,decide_eq_false k3,decide_eq_true k7,cond_true,cond_false]
  exact Sim.w (Sim.put (Q0m [[36],w.text_]) (Sim.bind (Z9c [40] w.words_ [32] [41] (by simp) hl hw) Sim.id)) (fun st=>by rw[Q2s];simp only[List.flatten_cons,List.flatten_nil,List.append_nil,List.cons_append,List.nil_append])
 by_cases k5:w.kind_=5
 ·simp only[decide_eq_false k1,decide_eq_false k2,decide_eq_false k3,decide_eq_false k7,decide_eq_true k5,cond_true,cond_false]
  exact Sim.w (Sim.bind (Z9c [40] w.words_ [32] [41] (by simp) hl hw) Sim.id)
 by_cases k4:w.kind_=4
 ·simp only[decide_eq_false k1,decide_eq_false k2,decide_eq_false k3,decide_eq_false k7,decide_eq_false k5,decide_eq_true k4,cond_true,cond_false]
  exact Sim.w (Sim.bind (Z9c [] w.words_ [94] [] (by simp) hl hw) Sim.id) (fun st=>by rw[X0h,X0h])
 have k6:w.kind_=6:=by omega
 simp only[decide_eq_false k1,decide_eq_false k2,decide_eq_false k3,decide_eq_false k7,decide_eq_false k5,decide_eq_false k4,decide_eq_true k6,cond_true,cond_false]
 exact Sim.w (Sim.bind (Q9y [96,123] w.cmd_ [125] hl2 hk) Sim.id)
theorem J5b:∀n:Nat,(∀w:Word,nW w<n→nW w≤2000→smW w→rW w=true→PS (K152 n w) (pW w) (10000 * nW w-100))∧(∀c:Cmd,nC c<n→nC c≤2000→smC c→rC c=true→PS (K66 n c) (pC c) (10000 * nC c-100))
 | 0=>⟨fun _ h=>by omega,fun _ h=>by omega⟩
 | n+1=>by
   obtain⟨ihW,ihC⟩:=J5b n
   refine⟨fun w hn hb hs hr=>?_,fun c hn hb hs hr=>?_⟩
   ·show PS (F152 (K66 n) (K152 n) w) _ _
    have h1:=Q3y w
    have h2:=Q2b w.words_
    have h3:=Q1e w.cmd_
    have hp:=Z2q hr
    rw[Q4z]at hs
    exact X6a w hr (by omega) (by omega) (by omega) (fun x hx=>ihW x (by have:=Q1f hx;omega) (by have:=Q1f hx;omega) (Q3l hs.2.2.1 hx) (hp.1 x hx)) (fun x hx=>ihC x (by have:=Q0l hx;omega) (by have:=Q0l hx;omega) (Q0u hs.2.2.2 hx) (hp.2.1 x hx))
   show PS (F66 (K66 n) (K152 n) c) _ _
   have h1:=Q2c c
   have h2:=Q2b c.words_
   have h3:=Q1e c.kids_
   have h4:=Q6e c.redirs_
   obtain⟨p1,p2,p3,p4,p5⟩:=Q6b hr
   rw[Q4m]at hs
   obtain⟨s1,s2,s3,s4,s5⟩:=hs
   refine K1d c hr s1 (by omega) (by omega) (by omega) (fun x hx=>ihW x (by have:=Q1f hx;omega) (by have:=Q1f hx;omega) (Q3l s3 hx) (p1 x hx)) (fun r hx=>?_) (fun h17 x hx=>ihC x (by have:=Q0l hx;omega) (by have:=Q0l hx;omega) (Q0u s5 hx) (p3 h17 x hx)) (fun k hk=>?_)
   ·have g1:=Q6x hx
    have g2:=Q8m r
    have g6:=Z3j s4 hx
    rw[Z9p]at g6
    have g7:=g6
    rw[Q4z]at g7
    exact X6b r (p2 r hx) (by omega) (fun hk=>ihW _ (by omega) (by omega) g6 (rR_w (p2 r hx) hk))
   have g1:=Q0l hk
   have g2:=Q2c k
   have g3:=Q2b k.words_
   have g4:=Q1e k.kids_
   have g5:=Q0u s5 hk
   rw[Q4m]at g5
   refine⟨by omega,by omega,fun h17 x hx=>ihW x (by have:=Q1f hx;omega) (by have:=Q1f hx;omega) (Q3l g5.2.2.1 hx) ((Q6a (p4 h17 k hk)).1 x hx),fun hkk x hx=>ihC x (by have:=Q0l hx;omega) (by have:=Q0l hx;omega) (Q0u g5.2.2.2.2 hx) ?_⟩
   by_cases h17:c.kind_=17
   ·exact(Q6a (p4 h17 k hk)).2.1 x hx
   have hrk:=p3 h17 k hk
   exact(Q6b hrk).2.2.1 (by omega) x hx
end Go.Abs.U48
namespace Go.Abs.U48
open Go Go.Proofs
abbrev RS:=Sim (δ:=Str) (fun x=>x) (fun _=>True)
theorem J4k(s b d:Str)(h:b.length+s.length≤100000000000):F112 s b d=some (b++s):=by
 rw[F112,Q2q (by omega)]
 rfl
theorem Q0i(s:Str):App (δ:=Str) (pd:=fun x=>x) (ok:=fun _=>True) (F112 s) s:=by
 intro b l _ h
 unfold sz LIM at h
 simp only at h
 rw[F112,Q2q (by omega)]
 rfl
theorem J5j:RS F69 nl 2:=by
 intro b l _ h
 have he:=J5x b
 unfold sz LIM at h
 simp only at h
 refine⟨[],?_,rfl,trivial,?_⟩
 ·have hj:∀x:Str,x.length≤b.length+1→Z6s l x=some (x++(10::l),[]):=fun x hx=>by
   rw[Z6s,Q2q (by simp;omega),Option.bind_some,J4k _ x l (by simp;omega),Option.bind_some]
   rfl
  rw[F69]
  unfold nl endl
  rcases List.eq_nil_or_concat b with rfl|⟨s,c,rfl⟩
  ·exact hj [] (by simp)
  simp only[List.concat_eq_append]at *
  have hlen:(s++[c]).length=s.length+1:=by simp
  have hlast:sidx (s++[c]) (IntKind.wrap .i64 (((s++[c]).length:Int)-1))=some (B c):=by
   rw[Q0r (by omega) (by omega),show(((s++[c]).length:Int)-1)=((s.length:Nat):Int)by omega,Q2d (by omega)]
   simp[B]
  rw[decide_eq_true (by omega),Q0g,hlast,Option.bind_some,Bool.true_and,List.getLast?_concat]
  have e:decide (some c=some (92:UInt8))=decide (B c=92):=by
   rw[show decide (B c=92)=decide (c=92) from Q5o c 92]
   exact decide_eq_decide.2 (by rw[Option.some.injEq])
  rw[e]
  cases decide (B c=92)with
  | false=>rw[Q0c,Q0c];exact hj _ (by omega)
  | true=>
    rw[Q0e,Q0e,J4k _ _ l (by simp at h ⊢;omega),Option.bind_some]
    exact hj _ (by simp)
 unfold sz nl
 simp only[List.length_append,List.length_cons,List.length_nil]
 omega
theorem Sim.congr{δ:Type}{pd:δ→Str}{ok:δ→Prop}{f f':Str→δ→Option (Str×δ)}{g:St→St}{c:Nat}(hf:∀b l,ok l→sz (b,pd l)+c≤LIM→f b l=f' b l)(h:Sim pd ok f' g c):Sim pd ok f g c:=by
 intro b l h1 h2
 rw[hf b l h1 h2]
 exact h b l h1 h2
theorem Y0c:∀k:Fin 64,F159 (k.val:Int)=some (dig (k.val:Int)):=by decide
theorem Z9f(n:Int)(h0:0≤n)(h1:n<64):F159 n=some (dig n):=by
 have:=Y0c ⟨n.toNat,by omega⟩
 simp only at this
 rw[Int.toNat_of_nonneg h0]at this
 exact this
def lhit(m:Str):Str→Str→Bool
 | _,[]=>false
 | cur,c::r=>bif decide (c=10)then(decide (cur=m)||lhit m [] r)else lhit m (cur++[c]) r
theorem Z0h(m:Str)(hm:m≠[]):∀ (t cur p:Str) (ps:List Str),Q0j 10 t=p::ps→((t=[]∧cur=[])∨t.getLast?=some 10)→lhit m cur t=((cur++p)::ps).any (fun x=>decide (x=m))
 | [],cur,p,ps,hp,h=>by
   rcases h with⟨_,rfl⟩|h
   ·rw[Q0j]at hp
    injection hp with h1 h2
    subst h1 h2
    rw[lhit,List.any_cons,List.any_nil,Bool.or_false]
    exact(decide_eq_false (fun e=>hm e.symm)).symm
   exact absurd h (by simp)
 | c::r,cur,p,ps,hp,h=>by
   have hl:(c::r).getLast?=some 10:=by
    rcases h with⟨h,_⟩|h
    ·exact absurd h (by simp)
    exact h
   obtain⟨q,qs,hq⟩:=Z2t 10 r
   rw[lhit]
   by_cases hc:c=10
   ·rw[Q0j,if_pos hc]at hp
    injection hp with h1 h2
    subst h1
    rw[decide_eq_true hc,Q0e,List.append_nil,List.any_cons]
    congr 1
    rw[←h2,hq]
    have:=Z0h m hm r [] q qs hq (by
     cases r with
     | nil=>exact .inl ⟨rfl,rfl⟩
     | cons x r=>exact .inr (by rw[List.getLast?_cons_cons]at hl;exact hl))
    rw[this,List.nil_append]
   rw[Q0j,if_neg hc,hq]at hp
   injection hp with h1 h2
   subst h1 h2
   rw[decide_eq_false hc,Q0c]
   have:=Z0h m hm r (cur++[c]) q qs hq (.inr (by
    cases r with
    | nil=>rw[List.getLast?_singleton]at hl;exact absurd (Option.some.inj hl) hc
    | cons x r=>rw[List.getLast?_cons_cons]at hl;exact hl))
   rw[this,List.append_assoc,List.singleton_append]
theorem Z7y(t m:Str)(ht:t.length≤1000000)(again4:Int→Option Str)(n3:Int):∀ (n i fr:Nat) (hit:Bool),i≤t.length→fr≤i→t.length-i<n→
 iter (Z1a t m again4 n3) n ((fr:Int),hit,(i:Int))=bif !(hit||lhit m ((t.take i).drop fr) (t.drop i))then some m else again4 (IntKind.wrap .i64 (n3+1))
 | 0,i,fr,hit,_,_,h=>by omega
 | n+1,i,fr,hit,h1,h2,h3=>by
   show Z1a t m again4 n3 (iter (Z1a t m again4 n3) n) ((fr:Int),hit,(i:Int))=_
   rw[Z1a]
   by_cases hc:i<t.length
   ·rw[decide_eq_true (p:=((i:Int)<(t.length:Int))) (by omega),Q0e,Q2d hc,Option.bind_some,Q0y hc,lhit]
    have hb:decide (((t[i].toNat:Nat):Int)=10)=decide (t[i]=10):=Q5o t[i] 10
    rw[hb,Q0r (by omega) (by omega)]
    have htk:(t.take (i+1))=t.take i++[t[i]]:=List.take_succ_eq_append_getElem hc
    cases decide (t[i]=10)with
    | false=>
      rw[Q0c,Q0c]
      have:=Z7y t m ht again4 n3 n (i+1) fr hit (by omega) (by omega) (by omega)
      rw[htk,List.drop_append_of_le_length (by rw[List.length_take];omega)]at this
      exact this
    | true=>
      rw[Q0e,Q0e]
      have hs:Q1o t (fr:Int) (i:Int)=some ((t.take i).drop fr):=by
       rw[Q1o,if_pos (by omega),List.drop_take]
       rfl
      have:=Z7y t m ht again4 n3 n (i+1) (i+1) (hit||decide ((t.take i).drop fr=m)) (by omega) (by omega) (by omega)
      rw[show((t.take (i+1)).drop (i+1))=[] from List.drop_eq_nil_of_le (by rw[List.length_take];omega)]at this
      rw[hs]
      cases hit with
      | false=>
        rw[Bool.not_false,Q0g,Option.bind_some,←Bool.or_assoc]
        exact this
      | true=>exact this
   have:i=t.length:=by omega
   subst this
   rw[decide_eq_false (p:=((t.length:Int)<(t.length:Int))) (by omega),Q0c,List.drop_length,lhit,Bool.or_false]
theorem J5n(t:Str)(ht:t.length≤1000000)(N:Nat)(hN:N≤2000000)(again4:Int→Option Str):∀ (n i:Nat),i≤N→N-i<n→
 iter (Z1b (N:Int) t again4) n (List.replicate i 69,(i:Int))=bif !lhit (List.replicate N 69) [] t then some (List.replicate N 69)else again4 (IntKind.wrap .i64 ((N:Int)+1))
 | 0,i,_,h=>by omega
 | n+1,i,h1,h2=>by
   show Z1b (N:Int) t again4 (iter (Z1b (N:Int) t again4) n) (List.replicate i 69,(i:Int))=_
   rw[Z1b]
   by_cases hc:i<N
   ·rw[decide_eq_true (p:=((i:Int)<(N:Int))) (by omega),Q0e,Q2q (by rw[List.length_replicate];simp only[List.length_cons,List.length_nil];omega),Option.bind_some,←List.replicate_succ',Q0r (by omega) (by omega)]
    exact J5n t ht N hN again4 n (i+1) (by omega) (by omega)
   have:i=N:=by omega
   subst this
   rw[decide_eq_false (p:=((i:Int)<(i:Int))) (by omega),Q0c]
   exact Z7y t _ ht again4 _ BIG 0 0 false (Nat.zero_le _) (Nat.le_refl _) (by unfold BIG;omega)
theorem b160(t:Str)(ht:t.length≤1000000)(N:Nat)(hN:N≤2000000)(again4:Int→Option Str):Z9e t again4 (N:Int)=bif !lhit (List.replicate N 69) [] t then some (List.replicate N 69)else again4 (IntKind.wrap .i64 ((N:Int)+1)):=by
 have hb:=J5n t ht N hN again4 BIG 0 (Nat.zero_le _) (by unfold BIG;omega)
 exact hb
theorem K3n{α R:Type}(body:(α→Option R)→α→Option R)(n:Nat)(x:α):iter body (n+1) x=body (iter body n) x:=rfl
theorem X9g(t:Str)(ht:t.length≤1000000)(hh:t=[]∨t.getLast?=some 10)(m:Nat):∀ (k n:Nat),n+k=t.length+2→1≤n→k<m→iter (Z9e t) m (n:Int)=some (List.replicate (Z4b (Q0j 10 t) k n) 69):=by
 induction m with
 | zero=>intro k n _ _ h;omega
 | succ m ih=>
   intro k n hn h1 h
   rw[K3n,b160 t ht n (by omega)]
   obtain⟨p,ps,hp⟩:=Z2t 10 t
   have hl:=Z0h (List.replicate n 69) (fun e=>by have:=congrArg List.length e;rw[List.length_replicate]at this;simp at this;omega) t [] p ps hp (hh.imp (fun h=>⟨h,rfl⟩) id)
   rw[List.nil_append,←hp]at hl
   rw[hl]
   cases e:(Q0j 10 t).any (fun x=>decide (x=List.replicate n 69))with
   | false=>
     rw[Bool.not_false,Q0e]
     cases k with
     | zero=>rw[Z4b]
     | succ k=>rw[Z4b,e,Q0c]
   | true=>
     obtain⟨x,hx,hx2⟩:=List.any_eq_true.1 e
     have hx3:=of_decide_eq_true hx2
     have hl:=Q9i t x hx
     rw[hx3,List.length_replicate]at hl
     cases k with
     | zero=>omega
     | succ k=>
       rw[Bool.not_true,Q0c,Q0r (by omega) (by omega)]
       have:=ih k (n+1) (by omega) (by omega) (by omega)
       rw[show((n+1:Nat):Int)=(n:Int)+1 by omega]at this
       rw[this,Z4b,e,Q0e]
theorem K1w(t:Str)(ht:t.length≤1000000)(hh:t=[]∨t.getLast?=some 10):F160 t=some (mark t):=by
 rw[F160]
 exact X9g t ht hh BIG (t.length+1) 1 (by omega) (Nat.le_refl _) (by unfold BIG;omega)
def opn(q:Str):Bool:=match q with|y::_=>decide (B y=49)|[]=>false
def qref:Bool→Str→Str→Str
 | o,c::t,x::q=>(bif decide (B x=49)&&!o then([39]:Str)else[])++((c::(bif decide (B x=49)&&decide (B c=39)then([39]:Str)else[])) ++
    ((bif decide (B x=49)&&!opn q then([39]:Str)else[])++qref (decide (B x=49)) t q))
 | _,_,_=>[]
theorem Z7r:∀ (o:Bool) (t q:Str),q.length=t.length→qrun o t q=(bif o&&!opn q then[39]else[])++qref o t q
 | o,[],[],_=>by cases o<;>rfl
 | o,[],x::q,h=>by simp at h
 | o,c::t,[],h=>by simp at h
 | o,c::t,x::q,h=>by
   have h1:=Z7r true t q (by simpa using h)
   have h2:=Z7r false t q (by simpa using h)
   rw[qrun,qref,opn]
   cases hx:decide (B x=49)with
   | true=>
     rw[h1]
     cases o<;>cases decide (B c=39)<;>simp[opn]
   | false=>
     rw[h2]
     cases o<;>simp
theorem X0p(w:Word)(hq:w.quoted_.length=w.text_.length)(hn:w.text_.length≤1000000)(hm:w.quoted_.all mkB=true):
 ∀ (n i:Nat) (s:Str),i≤w.text_.length→w.text_.length-i<n→s.length≤100 * i→iter (Q3j w) n (s,(i:Int))=some (s++qref (bif decide (i=0)then false else opn (w.quoted_.drop (i-1))) (w.text_.drop i) (w.quoted_.drop i))
 | 0,i,s,_,h,_=>by omega
 | n+1,i,s,h1,h2,h3=>by
   show Q3j w (iter (Q3j w) n) (s,(i:Int))=_
   rw[Q3j]
   by_cases hc:i<w.text_.length
   ·have hcq:i<w.quoted_.length:=by omega
    have mk:∀j (hj:j<w.quoted_.length),decide (((w.quoted_[j].toNat:Nat):Int)=48)=!decide (B w.quoted_[j]=49):=fun j hj=>by
     have:=List.all_eq_true.1 hm w.quoted_[j] (List.getElem_mem hj)
     have:=K3f this
     rw[this,Bool.not_not]
     rfl
    have hw1:IntKind.wrap .i64 ((i:Int)+1)=((i+1:Nat):Int):=by rw[Q0r (by omega) (by omega)];rfl
    have hB:∀c:UInt8,((c.toNat:Nat):Int)=B c:=fun _=>rfl
    rw[decide_eq_true (p:=((i:Int)<(w.text_.length:Int))) (by omega),Q0e,Q2d hcq,Option.bind_some,Q0y hc,Q0y hcq,qref]
    have hj5:∀s2:Str,s2.length+1≤100 * (i+1)→Q8s w (i:Int) (iter (Q3j w) n) s2=some (s2++((bif decide (B w.quoted_[i]=49)&&!(opn (w.quoted_.drop (i+1)))then[39]else[])++qref (decide (B w.quoted_[i]=49)) (w.text_.drop (i+1)) (w.quoted_.drop (i+1)))):=fun s2 hs2=>by
     have ih:=fun s h=>X0p w hq hn hm n (i+1) s (by omega) (by omega) h
     have hop:(bif decide (i+1=0)then false else opn (w.quoted_.drop (i+1-1)))=decide (B w.quoted_[i]=49):=by
      rw[decide_eq_false (by omega),Q0c,Nat.add_sub_cancel,Q0y hcq,opn]
     rw[hop]at ih
     rw[Q8s,Q2d hcq,Option.bind_some,hw1,hB]
     generalize decide (B w.quoted_[i]=49)=z at ih ⊢
     by_cases hl:i+1=w.text_.length
     ·have ho:opn (w.quoted_.drop (i+1))=false:=by
       rw[List.drop_eq_nil_of_le (by omega),opn]
      rw[decide_eq_true (p:=(((i+1:Nat):Int)=(w.text_.length:Int))) (by omega),ho,Bool.not_true,Bool.and_false]
      show(bif z&&(true||_)then _ else _)=_
      rw[Bool.true_or,Bool.not_false,Bool.and_true]
      cases z with
      | false=>rw[Q0c,Q0c,ih s2 (by omega)];rfl
      | true=>rw[Q0e,Q0e,Q2q (by simp;omega),Option.bind_some,ih _ (by simp;omega)];simp
     have hl2:i+1<w.quoted_.length:=by omega
     have ho:opn (w.quoted_.drop (i+1))=decide (B w.quoted_[i+1]=49):=by
      rw[Q0y hl2,opn]
     rw[decide_eq_false (p:=(((i+1:Nat):Int)=(w.text_.length:Int))) (by omega),ho,Bool.not_false,Bool.and_true,Q2d hl2]
     cases z with
     | false=>show iter (Q3j w) n (s2,_)=_;rw[ih s2 (by omega)];rfl
     | true=>
       rw[Q0g,Option.bind_some,mk _ hl2,Bool.false_or,Bool.true_and]
       cases decide (B w.quoted_[i+1]=49)with
       | false=>rw[Bool.not_false,Q0e,Q2q (by simp;omega),Option.bind_some,ih _ (by simp;omega)];simp
       | true=>show iter (Q3j w) n (s2,_)=_;rw[ih s2 (by omega)];rfl
    have hj4:∀s2:Str,s2.length+3≤100 * (i+1)→Q8t w (i:Int) (iter (Q3j w) n) s2=some (s2++((w.text_[i]::(bif decide (B w.quoted_[i]=49)&&decide (B w.text_[i]=39)then[39]else[]))++((bif decide (B w.quoted_[i]=49)&&!(opn (w.quoted_.drop (i+1)))then[39]else[])++qref (decide (B w.quoted_[i]=49)) (w.text_.drop (i+1)) (w.quoted_.drop (i+1))))):=fun s2 hs2=>by
     have hsl:Q1o w.text_ (i:Int) ((i+1:Nat):Int)=some [w.text_[i]]:=by
      rw[Q1o,if_pos (by omega),Int.toNat_natCast,Int.toNat_natCast,Q0y hc,show i+1-i=1 by omega]
      rfl
     rw[Q8t,hw1,hsl,Option.bind_some,Q2q (by simp;omega),Option.bind_some,Q2d hcq,Option.bind_some,Q2d hc,hB]
     generalize decide (B w.quoted_[i]=49)=z at hj5 ⊢
     cases z with
     | false=>
       show Q8s w (i:Int) (iter (Q3j w) n) (s2++[w.text_[i]])=_
       rw[hj5 _ (by simp;omega)]
       simp
     | true=>
       rw[Q0g,Option.bind_some,hB,Bool.true_and]
       cases decide (B w.text_[i]=39)with
       | false=>rw[Q0c,Q0c,hj5 _ (by simp;omega)];simp
       | true=>rw[Q0e,Q0e,Q2q (by simp;omega),Option.bind_some,hj5 _ (by simp;omega)];simp
    rw[hB]
    by_cases h0:i=0
    ·subst h0
     rw[show decide (((0:Nat):Int)=0)=true from rfl]
     show(Option.bind _ fun c41=>(bif decide (B w.quoted_[0]=49)&&(true||decide (c41=48))then _ else _))=_
     rw[Bool.not_true,Bool.and_false]
     show(bif decide (B w.quoted_[0]=49)&&(true||_)then _ else _)=_
     rw[Bool.true_or,Bool.and_true,decide_eq_true rfl,Q0e,Bool.not_false,Bool.and_true]
     cases hx:decide (B w.quoted_[0]=49)with
     | false=>rw[Q0c,Q0c,hj4 s (by omega),hx];rfl
     | true=>rw[Q0e,Q0e,Q2q (by simp;omega),Option.bind_some,hj4 _ (by simp;omega),hx];simp[opn]
    have hi1:i-1<w.quoted_.length:=by omega
    have ho:opn (w.quoted_.drop (i-1))=decide (B w.quoted_[i-1]=49):=by
     rw[Q0y hi1,opn]
    have hsi:sidx w.quoted_ (IntKind.wrap .i64 ((i:Int)-1))=some (w.quoted_[i-1].toNat:Int):=by
     rw[Q0r (by omega) (by omega),show(i:Int)-1=((i-1:Nat):Int)by omega,Q2d hi1]
    rw[decide_eq_false (p:=((i:Int)=0)) (by omega),decide_eq_false h0,Q0c,ho,hsi,Bool.not_false,Bool.and_true]
    cases hx:decide (B w.quoted_[i]=49)with
    | false=>show Q8t w (i:Int) (iter (Q3j w) n) s=_;rw[hj4 s (by omega),hx];rfl
    | true=>
      rw[Q0g,Option.bind_some,mk _ hi1,Bool.false_or,Bool.true_and]
      cases decide (B w.quoted_[i-1]=49)with
      | false=>rw[Bool.not_false,Q0e,Q2q (by simp;omega),Option.bind_some,hj4 _ (by simp;omega),hx];simp[opn]
      | true=>rw[Bool.not_true,Q0c,hj4 s (by omega),hx];rfl
   rw[decide_eq_false (by omega),Q0c,show w.text_.drop i=[] from List.drop_eq_nil_of_le (by omega),show w.quoted_.drop i=[] from List.drop_eq_nil_of_le (by omega)]
   simp[qref]
theorem K1p(w:Word)(hq:w.quoted_.length=w.text_.length)(hn:w.text_.length≤1000000)(hm:w.quoted_.all mkB=true):F193 w=some (Z5j w.text_ w.quoted_):=by
 rw[F193,Z5j]
 cases decide (w.text_=[])with
 | true=>rfl
 | false=>
   rw[Q0c,Q0c,Z7r false _ _ hq]
   have:=X0p w hq hn hm BIG 0 [] (Nat.zero_le _) (by unfold BIG;omega) (Nat.zero_le _)
   exact this
end Go.Abs.U48
namespace Go.Abs.U48
open Go Go.Proofs
abbrev WS:=Word→Str→Str→Option (Str×Str)
abbrev CS:=Cmd→Str→Str→Option (Str×Str)
theorem Z0f(w:Word)(r:List Word)(s:Str)(st:St):pSep (w::r) s false st=pSep (w::r) s true (put s st):=by rw[pSep,pSep];rfl
theorem J3v{w68:CS}(l:List Cmd)(hl:l.length≤1000000)(h:∀c∈l,RS (w68 c) (pC c) (10000 * nC c-100)):RS (F37 w68 l) (pIts l) (10000 * nCs l):=by
 delta F37
 refine Sim.loop l (fun _ r=>pIts r) (fun r=>10000 * nCs r) hl (fun i u r again hi hd hx hdec hag=>?_) (fun again hdec=>?_)
 ·simp only[J6s,hdec,hx,cond_true,Option.bind_some]
  have:=Q2c u
  exact Sim.w (Sim.bind (h u (Q1g hd)) (Sim.bind J5j hag)) (fun st=>by rw[pIts])
 simp only[J6s,hdec,cond_false]
 exact Sim.w Sim.id (fun st=>by rw[pIts])
theorem Z9j{w68:CS}(l:List Cmd)(s:Str)(hs:s.length≤50)(hl:l.length≤1000000)(h:∀c∈l,RS (w68 c) (pC c) (10000 * nC c-100)):RS (F113 w68 l s) (pJ l s true) (10000 * nCs l):=by
 delta F113
 refine Sim.loop l (fun f r=>pJ r s f) (fun r=>10000 * nCs r) hl (fun i u r again hi hd hx hdec hag=>?_) (fun again hdec=>?_)
 ·have hn:=Q2c u
  by_cases h0:i=0
  ·subst h0
   simp only[Z1i,Z1h,hdec,hx,zer0,cond_true,cond_false,Option.bind_some]
   exact Sim.w (Sim.bind (h u (Q1g hd)) hag) (fun st=>by rw[pJ];rfl)
  simp only[Z1i,Z1h,hdec,hx,pos0 h0,cond_true,cond_false,Option.bind_some]
  exact Sim.w (Sim.put (Q0i s) (Sim.bind (h u (Q1g hd)) hag)) (fun st=>by rw[pJ,decide_eq_false h0];rfl)
 simp only[Z1i,hdec,cond_false]
 exact Sim.w Sim.id (fun st=>by rw[pJ])
theorem Q5l{w158:WS}(l:List Word)(hl:l.length≤1000000)(h:∀c∈l,RS (w158 c) (pW c) (10000 * nW c-100)):RS (F110 w158 l) (pSep l [32] true) (10000 * nWs l):=by
 delta F110
 refine Sim.loop l (fun f r=>pSep r [32] f) (fun r=>10000 * nWs r) hl (fun i u r again hi hd hx hdec hag=>?_) (fun again hdec=>?_)
 ·have hn:=Q3y u
  by_cases h0:i=0
  ·subst h0
   simp only[Z1k,Z1j,hdec,hx,zer0,cond_true,cond_false,Option.bind_some]
   exact Sim.w (Sim.bind (h u (Q1g hd)) hag) (fun st=>by rw[pSep];rfl)
  simp only[Z1k,Z1j,hdec,hx,pos0 h0,cond_true,cond_false,Option.bind_some]
  exact Sim.w (Sim.put (Q0i [32]) (Sim.bind (h u (Q1g hd)) hag)) (fun st=>by rw[pSep,decide_eq_false h0];rfl)
 simp only[Z1k,hdec,cond_false]
 exact Sim.w Sim.id (fun st=>by rw[pSep])
theorem X3e{w158:WS}(w:Word)(hl:w.words_.length≤1000000)(h:∀c∈w.words_,RS (w158 c) (pW c) (10000 * nW c-100)):RS (fun b d=>iter (Q8v w w158) BIG (0,b,d)) (pSep w.words_ [94] true) (10000 * nWs w.words_):=by
 refine Sim.loop w.words_ (fun f r=>pSep r [94] f) (fun r=>10000 * nWs r) hl (fun i u r again hi hd hx hdec hag=>?_) (fun again hdec=>?_)
 ·have hn:=Q3y u
  by_cases h0:i=0
  ·subst h0
   simp only[Q8v,Z1c,hdec,hx,zer0,cond_true,cond_false,Option.bind_some]
   exact Sim.w (Sim.bind (h u (Q1g hd)) hag) (fun st=>by rw[pSep];rfl)
  simp only[Q8v,Z1c,hdec,hx,pos0 h0,cond_true,cond_false,Option.bind_some]
  exact Sim.w (Sim.put (Q0i [94]) (Sim.bind (h u (Q1g hd)) hag)) (fun st=>by rw[pSep,decide_eq_false h0];rfl)
 simp only[Q8v,hdec,cond_false]
 exact Sim.w Sim.id (fun st=>by rw[pSep])
theorem Z3b{w68:CS}(o:Str)(l:List Cmd)(c:Str)(hl:l.length≤1000000)(h:∀c∈l,RS (w68 c) (pC c) (10000 * nC c-100)):
 RS (F111 w68 o l c) (fun st=>put c (pIts l (nl (put o st)))) (o.length+(2+(10000 * nCs l+c.length))):=by
 delta F111
 exact Sim.w (Sim.put (Q0i o) (Sim.bind J5j (Sim.bind (J3v l hl h) (Sim.put (Q0i c) Sim.id))))
theorem J8i{fd:Int}{w:Word}(h:J3a fd w=true):w.text_=[]∨w.text_.getLast?=some 10:=by
 rw[J3a]at h
 simp only[Bool.and_eq_true,Bool.or_eq_true,J0u,decide_eq_true_eq]at h
 exact h.2
theorem X8n{r:Redir}(h:rR r=true)(hk:r.kind_=4):J3a r.fd_ r.word_=true:=by
 rw[X0a,hk]at h
 cases e2:(((((decide (r.fd_<0)||decide (64≤r.fd_))||decide (r.from_<0))||decide (64≤r.from_))||(!decide ((4:Int)=5)&&!decide (r.from_=0)))||(!decide ((4:Int)=4)&&r.raw_))with
 | true=>rw[e2,Q0e]at h;exact absurd h (by simp)
 | false=>rw[e2,Q0c]at h;exact h
theorem Q0v{a b:Str}(h:a.length+b.length≤100000000000):catO a b=some (a++b):=Q2q (by omega)
theorem Q8w{w158:WS}(r:Redir)(u:Int)(f1:0≤r.fd_)(f2:r.fd_<64)(h:RS (w158 r.word_) (pW r.word_) (10000 * nW r.word_-100)):
 RS (fun b l=>Q7k r l w158 (u,b)) (fun st=>pW r.word_ (put (brk r.fd_ u++[32]) st)) (10+(10000 * nW r.word_-100)):=by
 have d1:=Q8o r.fd_
 have hj2:RS (fun b l=>Z1e l w158 r b) (fun st=>pW r.word_ (put [32] st)) (1+(10000 * nW r.word_-100)):=by
  delta Z1e
  exact Sim.w (Sim.put (Q0i [32]) (Sim.bind h Sim.id))
 by_cases hu:r.fd_=u
 ·simp only[Q7k,decide_eq_true hu,Bool.not_true,cond_false]
  refine Sim.w hj2 (fun st=>?_)
  rw[brk,decide_eq_true hu]
  rfl
 simp only[Q7k,decide_eq_false hu,Bool.not_false,cond_true,Z9f _ f1 f2,Option.bind_some,Q0v (show([91]:Str).length+(dig r.fd_).length≤100000000000 by simp;omega),Q0v (show([91]++dig r.fd_:Str).length+([93]:Str).length≤100000000000 by simp;omega)]
 refine Sim.weak (Sim.put (Q0i _) hj2) (fun st=>?_) ?_
 ·rw[Q2s,brk,decide_eq_false hu]
  rfl
 simp only[List.length_append,List.length_cons,List.length_nil]
 omega
theorem RS.hold{s:Str}{k:Str→Str→Option (Str×Str)}{g:St→St}{c:Nat}(h:RS k g c):
 RS (fun b l=>k b (l++s)) (fun st=>g (Go.Abs.U48.wait s st)) (s.length+c):=by
 intro b l k1 k2
 unfold sz LIM at k2
 simp only at k2
 obtain⟨l',e1,e2,e3,e4⟩:=h b (l++s) trivial (by unfold sz LIM;simp only[List.length_append]at k2 ⊢;omega)
 refine⟨l',e1,e2,e3,?_⟩
 refine Nat.le_trans e4 ?_
 unfold sz
 simp only[List.length_append]
 omega
theorem X6c{w158:WS}(r:Redir)(hr:rR r=true)(ht:r.word_.text_.length≤2000)(h:(r.kind_=1∨r.kind_=2∨r.kind_=3)→RS (w158 r.word_) (pW r.word_) (10000 * nW r.word_-100)):RS (F115 w158 r) (pR r) (10000 * nR r-50):=by
 obtain⟨⟨f1,f2⟩,⟨g1,g2⟩,hk⟩:=K2r hr
 have hn:=Q8m r
 have hw:=Q3y r.word_
 have hm:=J5l r.word_.text_
 have d1:=Q8o r.fd_
 have d2:=Q8o r.from_
 rw[funext (K2z r)]
 delta F115
 by_cases k5:r.kind_=5
 ·have k1:¬ r.kind_=1:=by omega
  have k2:¬ r.kind_=2:=by omega
  have k3:¬ r.kind_=3:=by omega
  simp only[decide_eq_true k5,decide_eq_false k1,decide_eq_false k2,decide_eq_false k3,cond_true,cond_false,Z9f _ f1 f2,Z9f _ g1 g2,Option.bind_some,
   Q0v (show([62,91]:Str).length+(dig r.fd_).length≤100000000000 by simp;omega),Q0v (show([62,91]++dig r.fd_:Str).length+([61]:Str).length≤100000000000 by simp;omega),
   Q0v (show([62,91]++dig r.fd_++[61]:Str).length+(dig r.from_).length≤100000000000 by simp;omega),Q0v (show([62,91]++dig r.fd_++[61]++dig r.from_:Str).length+([93]:Str).length≤100000000000 by simp;omega)]
  exact Sim.w (Sim.put (Q0i _) Sim.id)
 by_cases k6:r.kind_=6
 ·have k1:¬ r.kind_=1:=by omega
  have k2:¬ r.kind_=2:=by omega
  have k3:¬ r.kind_=3:=by omega
  simp only[decide_eq_false k5,decide_eq_true k6,decide_eq_false k1,decide_eq_false k2,decide_eq_false k3,cond_true,cond_false,Z9f _ f1 f2,Option.bind_some,
   Q0v (show([62,91]:Str).length+(dig r.fd_).length≤100000000000 by simp;omega),Q0v (show([62,91]++dig r.fd_:Str).length+([61,93]:Str).length≤100000000000 by simp;omega)]
  exact Sim.w (Sim.put (Q0i _) Sim.id)
 by_cases k4:r.kind_=4
 ·have k1:¬ r.kind_=1:=by omega
  have k2:¬ r.kind_=2:=by omega
  have k3:¬ r.kind_=3:=by omega
  have f160:=K1w r.word_.text_ (by omega) (J8i (X8n hr k4))
  simp only[decide_eq_false k5,decide_eq_false k6,decide_eq_true k4,decide_eq_false k1,decide_eq_false k2,decide_eq_false k3,cond_true,cond_false,f160,Option.bind_some]
  refine Sim.congr (f':=fun b l=>(fun b l=>(F112 ([60,60]++qraw r.raw_++mark r.word_.text_++qraw r.raw_) b l).bind fun o=>some (o,l)) b (l++(r.word_.text_++(mark r.word_.text_++[10])))) (fun b l _ hb=>?_)
   (Sim.weak (RS.hold (Sim.put (Q0i _) Sim.id)) (fun st=>rfl) (Nat.le_refl _)) |>.weak (fun st=>rfl) ?_
  ·unfold sz LIM at hb
   simp only[List.length_append,List.length_cons,List.length_nil]at hb
   rw[Q0v (by omega),Option.bind_some,Q0v (by simp;omega),Option.bind_some,Q0v (by simp;omega),Option.bind_some]
   have el:(l++r.word_.text_++mark r.word_.text_++[10]:Str)=l++(r.word_.text_++(mark r.word_.text_++[10])):=by simp
   rw[el]
   cases r.raw_ with
   | true=>
     rw[Q0e,Q0v (by simp;omega),Option.bind_some,Q0v (by simp;omega),Option.bind_some,Q0v (by simp;omega),Option.bind_some]
     have:([60,60]++([39]++mark r.word_.text_++[39]):Str)=[60,60]++qraw true++mark r.word_.text_++qraw true:=by simp[qraw]
     rw[this]
   | false=>
     rw[Q0c,Q0v (by simp;omega),Option.bind_some]
     have:([60,60]++mark r.word_.text_:Str)=[60,60]++qraw false++mark r.word_.text_++qraw false:=by simp[qraw]
     rw[this]
  have hq:(qraw r.raw_).length≤1:=by unfold qraw;cases r.raw_<;>simp
  simp only[List.length_append,List.length_cons,List.length_nil]
  omega
 by_cases k1:r.kind_=1
 ·simp only[decide_eq_false k5,decide_eq_false k6,decide_eq_false k4,decide_eq_true k1,cond_true,cond_false]
  exact Sim.w (Sim.put (Q0i [60]) (Q8w r 0 f1 f2 (h (.inl k1)))) (fun st=>by rw[Q2s];rfl)
 by_cases k2:r.kind_=2
 ·simp only[decide_eq_false k5,decide_eq_false k6,decide_eq_false k4,decide_eq_false k1,decide_eq_true k2,cond_true,cond_false]
  exact Sim.w (Sim.put (Q0i [62]) (Q8w r 1 f1 f2 (h (.inr (.inl k2))))) (fun st=>by rw[Q2s];rfl)
 have k3:r.kind_=3:=by omega
 simp only[decide_eq_false k5,decide_eq_false k6,decide_eq_false k4,decide_eq_false k1,decide_eq_false k2,decide_eq_true k3,cond_true,cond_false]
 exact Sim.w (Sim.put (Q0i [62,62]) (Q8w r 1 f1 f2 (h (.inr (.inr k3))))) (fun st=>by rw[Q2s];rfl)
theorem J6n{w158:WS}(c:Cmd)(hl:c.redirs_.length≤1000000)(h:∀r∈c.redirs_,RS (F115 w158 r) (pR r) (10000 * nR r-50)):
 RS (fun b l=>Q3i c w158 (b,l)) (pRs c.redirs_ (!decide (c.kind_=12)&&!decide (0<(c.words_.length:Int)))) (10000 * nRs c.redirs_):=by
 simp only[Q3i]
 refine Sim.loop (body:=Z6v c w158) c.redirs_ (fun f r=>pRs r (f&&(!decide (c.kind_=12)&&!decide (0<(c.words_.length:Int))))) (fun r=>10000 * nRs r) hl (fun i u r again hi hd hx hdec hag=>?_) (fun again hdec=>?_)
 ·have hn:=Q8m u
  have hn2:=Q3y u.word_
  have e:((decide ((0:Int)<(i:Int))||decide (c.kind_=12))||decide ((0:Int)<(c.words_.length:Int)))=!(decide (i=0)&&(!decide (c.kind_=12)&&!decide ((0:Int)<(c.words_.length:Int)))):=by
   have:decide ((0:Int)<(i:Int))=!decide (i=0):=by
    by_cases h0:i=0
    ·rw[decide_eq_true h0,h0];rfl
    rw[decide_eq_false h0,decide_eq_true (by omega)];rfl
   rw[this]
   cases decide (i=0)<;>cases decide (c.kind_=12)<;>cases decide ((0:Int)<(c.words_.length:Int))<;>rfl
  simp only[Z6v,J1r,hdec,hx,e,cond_true,Option.bind_some]
  cases(decide (i=0)&&(!decide (c.kind_=12)&&!decide ((0:Int)<(c.words_.length:Int))))with
  | true=>
    simp only[Bool.not_true,cond_false]
    exact Sim.w (Sim.bind (h u (Q1g hd)) hag) (fun st=>by rw[pRs];rfl)
  | false=>
    simp only[Bool.not_false,cond_true]
    exact Sim.w (Sim.put (Q0i [32]) (Sim.bind (h u (Q1g hd)) hag)) (fun st=>by rw[pRs];rfl)
 simp only[Z6v,hdec,cond_false]
 exact Sim.w Sim.id (fun st=>by rw[pRs])
end Go.Abs.U48
namespace Go.Abs.U48
open Go Go.Proofs
theorem J2g{k:Int}{nm:Str}{w r n:Nat}(h:Q1v k nm w r n=true)(h1:k≠1)(h12:k≠12):r=0:=by
 rw[Q1v,decide_eq_false h1,decide_eq_false h12,Bool.not_false,Bool.and_true,Bool.and_true]at h
 refine Classical.byContradiction fun hr=>?_
 rw[decide_eq_true (show 0<r by omega),Bool.or_true,Q0e]at h
 exact absurd h (by simp)
theorem Z3z(u:Cmd)(s:Str)(st:St):pJ [u] s true st=pC u st:=by rw[pJ,pJ];rfl
section
variable (c:Cmd)(nm:Str)(w r n:Nat)
theorem J4t(k:Int)(h:Q1v k nm w r n=true)(hk:k=7∨k=13∨k=9∨k=14):n=1:=by
 rcases hk with rfl|rfl|rfl|rfl<;>(rw[shU _ _ _ _ _ (by omega)]at h;simp only[Bool.and_eq_true]at h;have:=h.2;revert this;cases decide (w=0)<;>simp)
theorem V5e(h:Q1v 10 nm w r n=true):n=1:=by
 rw[sh10]at h;simp only[Bool.and_eq_true,decide_eq_true_eq]at h;omega
theorem V5d(h:Q1v 16 nm w r n=true):0<w:=by
 rw[shU _ _ _ _ _ (by omega)]at h;simp only[Bool.and_eq_true]at h;have:=h.2;revert this;cases hw:decide (0<w)with
 | false=>simp
 | true=>exact fun _=>of_decide_eq_true hw
theorem V5c(h:Q1v 17 nm w r n=true):0<w:=by
 rw[shU _ _ _ _ _ (by omega)]at h;simp only[Bool.and_eq_true]at h;have:=h.2;revert this;cases hw:decide (w=1)with
 | false=>simp
 | true=>have:=of_decide_eq_true hw;exact fun _=>by omega
end
section
variable (c:Cmd)
theorem pC_1(hk:c.kind_=1):pC c=fun st=>pRs c.redirs_ (decide (c.words_=[])) (pSep c.words_ [32] true st):=by funext st;rw[Q3x,hk];rfl
theorem V5q(hk:c.kind_=12):pC c=fun st=>pRs c.redirs_ false (put [125] (pIts c.kids_ (nl (put [123] st)))):=by funext st;rw[Q3x,hk];rfl
theorem pC_2(hk:c.kind_=2):pC c=fun st=>pJ c.kids_ [] true (bif decide (c.kids_.length=0)then pSep c.words_ [32] true (put (c.name_++[61]) st)else put [32] (pSep c.words_ [32] true (put (c.name_++[61]) st))):=by funext st;rw[Q3x,hk];rfl
theorem pC_7(hk:c.kind_=7):pC c=fun st=>pJ c.kids_ [] true (put [33,32] st):=by funext st;rw[Q3x,hk];rfl
theorem V5p(hk:c.kind_=13):pC c=fun st=>pJ c.kids_ [] true (put [64,32] st):=by funext st;rw[Q3x,hk];rfl
theorem pC_9(hk:c.kind_=9):pC c=fun st=>pJ c.kids_ [] true (put [105,102,32,110,111,116,32] st):=by funext st;rw[Q3x,hk];rfl
theorem pC_8(hk:c.kind_=8):pC c=fun st=>pT c.kids_ (put [105,102,40] st):=by funext st;rw[Q3x,hk];rfl
theorem V5r(hk:c.kind_=11):pC c=fun st=>pT c.kids_ (put [119,104,105,108,101,40] st):=by funext st;rw[Q3x,hk];rfl
theorem pC_3(hk:c.kind_=3):pC c=fun st=>pJ c.kids_ [32,124,32] true st:=by funext st;rw[Q3x,hk];rfl
theorem pC_5(hk:c.kind_=5):pC c=fun st=>pJ c.kids_ [32,38,38,32] true st:=by funext st;rw[Q3x,hk];rfl
theorem pC_6(hk:c.kind_=6):pC c=fun st=>pJ c.kids_ [32,124,124,32] true st:=by funext st;rw[Q3x,hk];rfl
theorem V5o(hk:c.kind_=14):pC c=fun st=>put [32,38] (pJ c.kids_ [] true st):=by funext st;rw[Q3x,hk];rfl
theorem V5s(hk:c.kind_=10):pC c=fun st=>pJ c.kids_ [] true (put [41,32] (pSep c.words_ [32] false (put ([102,111,114,40]++(c.name_++[32,105,110])) st))):=by funext st;rw[Q3x,hk];rfl
theorem V5l(hk:c.kind_=17):pC c=fun st=>put [125] (pCs c.kids_ (nl (put [32,123] (pSep c.words_ [32] false (put [115,119,105,116,99,104] st))))):=by funext st;rw[Q3x,hk];rfl
theorem V5n(hk:c.kind_=15):pC c=fun st=>(bif decide (c.kids_.length=0)then put ([102,110,32]++c.name_) st else put [125] (pIts c.kids_ (nl (put ([102,110,32]++c.name_++[32,123]) st)))):=by funext st;rw[Q3x,hk];rfl
theorem V5m(hk:c.kind_=16):pC c=fun st=>pSep c.words_ [32] false (put [126] st):=by funext st;rw[Q3x,hk];rfl
end
theorem X3k{w68:CS}{w158:WS}(c:Cmd)(u:Cmd)(hu:c.kids_=[u])(hl:c.words_.length≤1000000)(hw:∀x∈c.words_,RS (w158 x) (pW x) (10000 * nW x-100))(hk:RS (w68 u) (pC u) (10000 * nC u-100)):
 RS (fun b d=>iter (Z1g c w158 w68) BIG (0,b,d)) (fun st=>pJ c.kids_ [] true (put [41,32] (pSep c.words_ [32] false st))) (10000 * nWs c.words_+(2+(10000 * nC u-100))):=by
 refine Sim.loop (body:=Z1g c w158 w68) c.words_ (fun _ r st=>pJ c.kids_ [] true (put [41,32] (pSep r [32] false st))) (fun r=>10000 * nWs r+(2+(10000 * nC u-100))) hl (fun i x r again hi hd hx hdec hag=>?_) (fun again hdec=>?_)
 ·simp only[Z1g,hdec,hx,cond_true,Option.bind_some]
  refine Sim.weak (Sim.put (Q0i [32]) (Sim.bind (hw x (Q1g hd)) hag)) (fun st=>by rw[pSep];rfl) ?_
  have:=Q3y x
  rw[nWs]
  simp only[List.length_cons,List.length_nil]
  omega
 simp only[Z1g,hdec,cond_false,hu,Q4d,Option.bind_some]
 exact Sim.w (Sim.put (Q0i [41,32]) (Sim.bind hk Sim.id)) (fun st=>by rw[pSep,Z3z])
theorem X3j{w68:CS}{w158:WS}(c:Cmd)(hl2:c.kids_.length≤1000000)
 (hkw:∀k∈c.kids_,(k.words_.length≤1000000∧k.kids_.length≤1000000∧0<k.words_.length)∧(∀x∈k.words_,RS (w158 x) (pW x) (10000 * nW x-100))∧(∀x∈k.kids_,RS (w68 x) (pC x) (10000 * nC x-100))):
 RS (fun b d=>iter (Z1f c w158 w68) BIG (0,b,d)) (fun st=>put [125] (pCs c.kids_ st)) (10000 * nCs c.kids_+1):=by
 refine Sim.loop (body:=Z1f c w158 w68) c.kids_ (fun _ r st=>put [125] (pCs r st)) (fun r=>10000 * nCs r+1) hl2 (fun i u r again hi hd hx hdec hag=>?_) (fun again hdec=>?_)
 ·simp only[Z1f,hdec,hx,cond_true,Option.bind_some]
  obtain⟨⟨a1,a2,a5⟩,a3,a4⟩:=hkw u (Q1g hd)
  refine Sim.weak (Sim.put (Q0i [99,97,115,101,32]) (Sim.bind (Q5l u.words_ a1 a3) (Sim.bind J5j (Sim.bind (J3v u.kids_ a2 a4) hag)))) (fun st=>?_) ?_
  ·rw[pCs,X6o]
   cases hw:u.words_ with
   | nil=>rw[hw]at a5;simp at a5
   | cons x r=>rw[Z0f,Q2s];rfl
  have:=Q2c u
  rw[nCs]
  simp only[List.length_cons,List.length_nil]
  omega
 simp only[Z1f,hdec,cond_false]
 exact Sim.w (Sim.put (Q0i [125]) Sim.id) (fun st=>by rw[pCs])
theorem X6d{w68:CS}{w158:WS}(c:Cmd)(hc:rC c=true)(hnm:c.name_.length≤2000)(hl:c.words_.length≤1000000)(hl2:c.kids_.length≤1000000)(k0:c.kind_=10∨c.kind_=17∨c.kind_=15∨c.kind_=16)
 (hw:∀x∈c.words_,RS (w158 x) (pW x) (10000 * nW x-100)) (hk:c.kind_≠17→∀x∈c.kids_,RS (w68 x) (pC x) (10000 * nC x-100))
 (hkw:c.kind_=17→∀k∈c.kids_,(k.words_.length≤1000000∧k.kids_.length≤1000000∧0<k.words_.length)∧(∀x∈k.words_,RS (w158 x) (pW x) (10000 * nW x-100))∧(∀x∈k.kids_,RS (w68 x) (pC x) (10000 * nC x-100))):
 RS (F114 w68 w158 c) (pC c) (10000 * nC c-100):=by
 have hsh:=(Q6b hc).2.2.2.2
 have hn:=Q2c c
 delta F114
 by_cases k10:c.kind_=10
 ·rw[k10]at hsh
  obtain⟨u,hu⟩:=one (V5e _ _ _ _ hsh)
  have hku:=hk (by omega) u (by rw[hu];simp)
  have hnu:=Q2c u
  rw[V5s c k10]
  simp only[decide_eq_true k10,cond_true,Q0v (show([102,111,114,40]:Str).length+c.name_.length≤100000000000 by simp;omega),Q0v (show([102,111,114,40]++c.name_:Str).length+([32,105,110]:Str).length≤100000000000 by simp;omega),Option.bind_some]
  refine Sim.weak (Sim.put (Q0i _) (X3k c u hu hl hw hku)) (fun st=>by rw[List.append_assoc]) ?_
  rw[hu,nCs,nCs]at hn
  simp only[List.length_append,List.length_cons,List.length_nil]
  omega
 by_cases k17:c.kind_=17
 ·rw[k17]at hsh
  have h0:=V5c _ _ _ _ hsh
  rw[V5l c k17]
  simp only[decide_eq_false k10,decide_eq_true k17,cond_true,cond_false]
  refine Sim.weak (Sim.put (Q0i [115,119,105,116,99,104,32]) (Sim.bind (Q5l c.words_ hl hw) (Sim.put (Q0i [32,123]) (Sim.bind J5j (X3j c hl2 (hkw k17)))))) (fun st=>?_) ?_
  ·cases hws:c.words_ with
   | nil=>rw[hws]at h0;simp at h0
   | cons x r=>rw[Z0f,Q2s];rfl
  simp only[List.length_cons,List.length_nil]
  omega
 by_cases k15:c.kind_=15
 ·rw[V5n c k15]
  by_cases hz:c.kids_.length=0
  ·have e:decide ((0:Int)<(c.kids_.length:Int))=false:=decide_eq_false (by omega)
   simp only[decide_eq_false k10,decide_eq_false k17,decide_eq_true k15,e,decide_eq_true hz,cond_true,cond_false,Q0v (show([102,110,32]:Str).length+c.name_.length≤100000000000 by simp;omega),Option.bind_some]
   exact Sim.w (Sim.put (Q0i _) Sim.id)
  have e:decide ((0:Int)<(c.kids_.length:Int))=true:=decide_eq_true (by omega)
  simp only[decide_eq_false k10,decide_eq_false k17,decide_eq_true k15,e,decide_eq_false hz,cond_true,cond_false,Q0v (show([102,110,32]:Str).length+c.name_.length≤100000000000 by simp;omega),Option.bind_some]
  exact Sim.w (Sim.put (Q0i _) (Sim.put (Q0i [32]) (Sim.bind (Z3b [123] c.kids_ [125] hl2 (hk (by omega))) Sim.id))) (fun st=>by rw[Q2s,Q2s];simp only[List.append_assoc];rfl)
 have k16:c.kind_=16:=by omega
 rw[k16]at hsh
 have h0:=V5d _ _ _ _ hsh
 rw[V5m c k16]
 simp only[decide_eq_false k10,decide_eq_false k17,decide_eq_false k15,cond_false]
 refine Sim.weak (Sim.put (Q0i [126,32]) (Sim.bind (Q5l c.words_ hl hw) Sim.id)) (fun st=>?_) ?_
 ·cases hws:c.words_ with
  | nil=>rw[hws]at h0;simp at h0
  | cons x r=>rw[Z0f,Q2s];rfl
 simp only[List.length_cons,List.length_nil]
 omega
theorem Z6t{w68:CS}{w158:WS}(c:Cmd)(a b:Cmd)(e:c.kids_=[a,b])(hr0:c.redirs_=[])(hla:a.kids_.length≤1000000)(ha:∀x∈a.kids_,RS (w68 x) (pC x) (10000 * nC x-100))(hb:RS (w68 b) (pC b) (10000 * nC b-100)):
 RS (fun x l=>Z6u c w68 l w158 x) (fun st=>pT c.kids_ (put [40] st)) (20+10000 * nCs a.kids_+(10000 * nC b-100)):=by
 have hrs:RS (fun b l=>Q3i c w158 (b,l)) (fun st=>st) 0:=by
  refine Sim.weak (J6n c (by rw[hr0];simp) (fun r hr=>by rw[hr0]at hr;exact absurd hr List.not_mem_nil)) (fun st=>by rw[hr0,pRs]) (by rw[hr0,nRs];omega)
 delta Z6u
 simp only[e,Q4d,Option.bind_some,show lidx [a,b] 1=some b from rfl]
 exact Sim.w (Sim.bind (Z3b [40] a.kids_ [41] hla ha) (Sim.put (Q0i [32]) (Sim.bind hb hrs))) (fun st=>by rw[pT,Z3z,X8t,Q2s];rfl)
theorem K1c{w68:CS}{w158:WS}(c:Cmd)(hc:rC c=true)(hnm:c.name_.length≤2000)(hl:c.words_.length≤1000000)(hl2:c.kids_.length≤1000000)(hl3:c.redirs_.length≤1000000)
 (hw:∀x∈c.words_,RS (w158 x) (pW x) (10000 * nW x-100)) (hr:∀r∈c.redirs_,RS (F115 w158 r) (pR r) (10000 * nR r-50)) (hk:c.kind_≠17→∀x∈c.kids_,RS (w68 x) (pC x) (10000 * nC x-100))
 (hkw:c.kind_=17→∀k∈c.kids_,(k.words_.length≤1000000∧k.kids_.length≤1000000∧0<k.words_.length)∧(∀x∈k.words_,RS (w158 x) (pW x) (10000 * nW x-100))∧(∀x∈k.kids_,RS (w68 x) (pC x) (10000 * nC x-100)))
 (hki:∀k∈c.kids_,k.kids_.length≤1000000∧(k.kind_=12→∀x∈k.kids_,RS (w68 x) (pC x) (10000 * nC x-100))):
 RS (F68 w68 w158 c) (pC c) (10000 * nC c-100):=by
 have hsh:=(Q6b hc).2.2.2.2
 have hkind:=Z5w hsh
 have hn:=Q2c c
 have hrd:=J6n c hl3 hr
 have hno:c.kind_≠1→c.kind_≠12→RS (fun b l=>Q3i c w158 (b,l)) (fun st=>st) 0:=fun h1 h12=>by
  have h0:c.redirs_=[]:=List.eq_nil_of_length_eq_zero (J2g hsh h1 h12)
  refine Sim.weak hrd (fun st=>by rw[h0,pRs]) (by rw[h0,nRs];omega)
 have hone:c.kind_≠17→c.kids_.length=1→∃u,c.kids_=[u]∧RS (w68 u) (pC u) (10000 * nC u-100)∧nCs c.kids_=nC u∧1≤nC u:=fun h17 h1=>by
  obtain⟨u,hu⟩:=one h1
  refine⟨u,hu,hk h17 u (by rw[hu];simp),by rw[hu,nCs,nCs];omega,by rw[Q2c];omega⟩
 delta F68
 by_cases k1:c.kind_=1
 ·rw[pC_1 c k1]
  simp only[decide_eq_true k1,cond_true]
  refine Sim.w (Sim.bind (Q5l c.words_ hl hw) hrd) (fun st=>?_)
  have e:(!decide (c.kind_=12)&&!decide ((0:Int)<(c.words_.length:Int)))=decide (c.words_=[]):=by
   rw[k1]
   cases hws:c.words_ with
   | nil=>rfl
   | cons x r=>
     rw[decide_eq_true (show(0:Int)<((x::r).length:Int)by rw[List.length_cons];omega)]
     simp
  rw[e]
 by_cases k12:c.kind_=12
 ·rw[V5q c k12]
  simp only[decide_eq_false k1,decide_eq_true k12,cond_true,cond_false]
  refine Sim.weak (Sim.bind (Z3b [123] c.kids_ [125] hl2 (hk (by omega))) hrd) (fun st=>?_) ?_
  ·rw[k12];rfl
  simp only[List.length_cons,List.length_nil]
  omega
 have hno:=hno k1 k12
 by_cases k2:c.kind_=2
 ·rw[pC_2 c k2]
  rw[k2]at hsh
  have h2:=J9q hsh
  by_cases hz:c.kids_.length=0
  ·have e:decide ((0:Int)<(c.kids_.length:Int))=false:=decide_eq_false (by omega)
   simp only[decide_eq_false k1,decide_eq_false k12,decide_eq_true k2,cond_true,cond_false,e,decide_eq_true hz,Q0v (show c.name_.length+([61]:Str).length≤100000000000 by simp;omega),Option.bind_some]
   exact Sim.w (Sim.put (Q0i _) (Sim.bind (Q5l c.words_ hl hw) hno)) (fun st=>by rw[List.eq_nil_of_length_eq_zero hz,pJ])
  have e:decide ((0:Int)<(c.kids_.length:Int))=true:=decide_eq_true (by omega)
  obtain⟨u,hu,hku,hnu,hnp⟩:=hone (by omega) (by omega)
  simp only[decide_eq_false k1,decide_eq_false k12,decide_eq_true k2,cond_true,cond_false,e,decide_eq_false hz,Q0v (show c.name_.length+([61]:Str).length≤100000000000 by simp;omega),hu,Q4d,Option.bind_some]
  exact Sim.w (Sim.put (Q0i _) (Sim.bind (Q5l c.words_ hl hw) (Sim.put (Q0i [32]) (Sim.bind hku hno)))) (fun st=>by rw[Z3z];rfl)
 by_cases k7:c.kind_=7
 ·rw[pC_7 c k7]
  have hk1:c.kind_=7∨c.kind_=13∨c.kind_=9∨c.kind_=14:=by omega
  have h17:c.kind_≠17:=by omega
  obtain⟨u,hu,hku,hnu,hnp⟩:=hone h17 (J4t _ _ _ _ _ hsh hk1)
  simp only[decide_eq_false k1,decide_eq_false k12,decide_eq_false k2,decide_eq_true k7,cond_true,cond_false,hu,Q4d,Option.bind_some]
  exact Sim.w (Sim.put (Q0i [33,32]) (Sim.bind hku hno)) (fun st=>by rw[Z3z])
 by_cases k13:c.kind_=13
 ·rw[V5p c k13]
  have hk1:c.kind_=7∨c.kind_=13∨c.kind_=9∨c.kind_=14:=by omega
  have h17:c.kind_≠17:=by omega
  obtain⟨u,hu,hku,hnu,hnp⟩:=hone h17 (J4t _ _ _ _ _ hsh hk1)
  simp only[decide_eq_false k1,decide_eq_false k12,decide_eq_false k2,decide_eq_false k7,decide_eq_true k13,cond_true,cond_false,hu,Q4d,Option.bind_some]
  exact Sim.w (Sim.put (Q0i [64,32]) (Sim.bind hku hno)) (fun st=>by rw[Z3z])
 by_cases k9:c.kind_=9
 ·rw[pC_9 c k9]
  have hk1:c.kind_=7∨c.kind_=13∨c.kind_=9∨c.kind_=14:=by omega
  have h17:c.kind_≠17:=by omega
  obtain⟨u,hu,hku,hnu,hnp⟩:=hone h17 (J4t _ _ _ _ _ hsh hk1)
  simp only[decide_eq_false k1,decide_eq_false k12,decide_eq_false k2,decide_eq_false k7,decide_eq_false k13,decide_eq_true k9,cond_true,cond_false,hu,Q4d,Option.bind_some]
  exact Sim.w (Sim.put (Q0i [105,102,32,110,111,116,32]) (Sim.bind hku hno)) (fun st=>by rw[Z3z])
 by_cases k8:c.kind_=8
 ·have k11:¬ c.kind_=11:=by omega
  rw[pC_8 c k8]
  obtain⟨a,b,e⟩:=two (Z5x hsh (.inl k8))
  have ha:=hki a (by rw[e];simp)
  have hb:=hk (by omega) b (by rw[e];simp)
  have hr0:c.redirs_=[]:=List.eq_nil_of_length_eq_zero (J2g hsh k1 k12)
  have hj:=Z6t (w158:=w158) c a b e hr0 ha.1 (ha.2 (X3v hc (.inl k8) e)) hb
  simp only[decide_eq_false k1,decide_eq_false k12,decide_eq_false k2,decide_eq_false k7,decide_eq_false k13,decide_eq_false k9,decide_eq_true k8,decide_eq_false k11,cond_true,cond_false]
  refine Sim.weak (Sim.put (Q0i [105,102]) hj) (fun st=>by rw[Q2s];rfl) ?_
  rw[e,nCs,nCs,nCs]at hn
  have h1:=Q2c a
  have h2:=Q2c b
  simp only[List.length_cons,List.length_nil]
  omega
 by_cases k11:c.kind_=11
 ·rw[V5r c k11]
  obtain⟨a,b,e⟩:=two (Z5x hsh (.inr (.inl k11)))
  have ha:=hki a (by rw[e];simp)
  have hb:=hk (by omega) b (by rw[e];simp)
  have hr0:c.redirs_=[]:=List.eq_nil_of_length_eq_zero (J2g hsh k1 k12)
  have hj:=Z6t (w158:=w158) c a b e hr0 ha.1 (ha.2 (X3v hc (.inr k11) e)) hb
  simp only[decide_eq_false k1,decide_eq_false k12,decide_eq_false k2,decide_eq_false k7,decide_eq_false k13,decide_eq_false k9,decide_eq_false k8,decide_eq_true k11,cond_true,cond_false]
  refine Sim.weak (Sim.congr (c:=5+(20+10000 * nCs a.kids_+(10000 * nC b-100))) (fun x l _ hx=>?_) (Sim.put (Q0i [119,104,105,108,101]) hj)) (fun st=>by rw[Q2s];rfl) ?_
  ·unfold sz LIM at hx
   simp only at hx
   have hs:Q1o (x++[105,102]) 0 (IntKind.wrap .i64 (((x++[105,102]:Str).length:Int)-2))=some x:=by
    rw[Q0r (by simp only[List.length_append,List.length_cons,List.length_nil];omega) (by simp only[List.length_append,List.length_cons,List.length_nil];omega),Q1o,if_pos (by simp only[List.length_append,List.length_cons,List.length_nil];omega)]
    simp
   rw[J4k _ _ _ (by simp;omega),Option.bind_some,hs,Option.bind_some]
  rw[e,nCs,nCs,nCs]at hn
  have h1:=Q2c a
  have h2:=Q2c b
  omega
 simp only[decide_eq_false k1,decide_eq_false k12,decide_eq_false k2,decide_eq_false k7,decide_eq_false k13,decide_eq_false k9,decide_eq_false k8,decide_eq_false k11,cond_false]
 by_cases k3:c.kind_=3
 ·rw[pC_3 c k3]
  simp only[decide_eq_true k3,cond_true]
  exact Sim.w (Sim.bind (Z9j c.kids_ [32,124,32] (by simp) hl2 (hk (by omega))) hno)
 by_cases k5:c.kind_=5
 ·rw[pC_5 c k5]
  simp only[decide_eq_false k3,decide_eq_true k5,cond_true,cond_false]
  exact Sim.w (Sim.bind (Z9j c.kids_ [32,38,38,32] (by simp) hl2 (hk (by omega))) hno)
 by_cases k6:c.kind_=6
 ·rw[pC_6 c k6]
  simp only[decide_eq_false k3,decide_eq_false k5,decide_eq_true k6,cond_true,cond_false]
  exact Sim.w (Sim.bind (Z9j c.kids_ [32,124,124,32] (by simp) hl2 (hk (by omega))) hno)
 by_cases k14:c.kind_=14
 ·rw[V5o c k14]
  have hk1:c.kind_=7∨c.kind_=13∨c.kind_=9∨c.kind_=14:=by omega
  have h17:c.kind_≠17:=by omega
  obtain⟨u,hu,hku,hnu,hnp⟩:=hone h17 (J4t _ _ _ _ _ hsh hk1)
  simp only[decide_eq_false k3,decide_eq_false k5,decide_eq_false k6,decide_eq_true k14,cond_true,cond_false,hu,Q4d,Option.bind_some]
  exact Sim.w (Sim.bind hku (Sim.put (Q0i [32,38]) hno)) (fun st=>by rw[Z3z])
 simp only[decide_eq_false k3,decide_eq_false k5,decide_eq_false k6,decide_eq_false k14,cond_false]
 have k0:c.kind_=10∨c.kind_=17∨c.kind_=15∨c.kind_=16:=by
  clear hone
  omega
 exact Sim.w (Sim.bind (X6d c hc hnm hl hl2 k0 hw hk hkw) hno)
theorem X5y{w68:CS}{w158:WS}(w:Word)(hr:rW w=true)(ht:w.text_.length≤2000)(hl:w.words_.length≤1000000)(hl2:w.cmd_.length≤1000000)
 (hw:∀x∈w.words_,RS (w158 x) (pW x) (10000 * nW x-100)) (hk:∀x∈w.cmd_,RS (w68 x) (pC x) (10000 * nC x-100)):
 RS (F158 w68 w158 w) (pW w) (10000 * nW w-100):=by
 have hn:=Q3y w
 obtain⟨-,-,hq,hkind⟩:=Z2q hr
 rw[funext (K2y w)]
 delta F158
 by_cases k1:w.kind_=1
 ·have hm:w.quoted_.all mkB=true:=by
   have h:=hr
   rw[J7m,decide_eq_true k1,Q0e,Z5i]at h
   simp only[Bool.and_eq_true]at h
   rw[←J3l mkB _ w.text_ (hq k1),List.all_eq_true]
   intro p hp
   have h3:=List.all_eq_true.1 h.1.2.1 p hp
   rw[okQ,Bool.and_eq_true]at h3
   exact h3.1
  have hlen:(Z5j w.text_ w.quoted_).length≤8001:=by
   have:=Z2r false w.text_ w.quoted_
   unfold Z5j
   cases decide (w.text_=[])<;>simp<;>omega
  simp only[decide_eq_true k1,cond_true,K1p w (hq k1) (show w.text_.length≤1000000 by omega) hm,Option.bind_some]
  exact Sim.w (Sim.put (Q0i _) Sim.id)
 by_cases k2:w.kind_=2
 ·simp only[decide_eq_false k1,decide_eq_true k2,cond_true,cond_false,Q0v (show([36]:Str).length+w.text_.length≤100000000000 by simp;omega),Option.bind_some]
  exact Sim.w (Sim.put (Q0i _) Sim.id)
 by_cases k3:w.kind_=3
 ·simp only[decide_eq_false k1,decide_eq_false k2,decide_eq_true k3,cond_true,cond_false,Q0v (show([36,35]:Str).length+w.text_.length≤100000000000 by simp;omega),Option.bind_some]
  exact Sim.w (Sim.put (Q0i _) Sim.id)
 by_cases k7:w.kind_=7
 ·simp only[decide_eq_false k1,decide_eq_false k2,decide_eq_false k3,decide_eq_true k7,cond_true,cond_false,Q0v (show([36]:Str).length+w.text_.length≤100000000000 by simp;omega),Q0v (show([36]++w.text_:Str).length+([40]:Str).length≤100000000000 by simp;omega),Option.bind_some]
  exact Sim.w (Sim.put (Q0i _) (Sim.bind (Q5l w.words_ hl hw) (Sim.put (Q0i [41]) Sim.id)))
 by_cases k5:w.kind_=5
 ·simp only[decide_eq_false k1,decide_eq_false k2,decide_eq_false k3,decide_eq_false k7,decide_eq_true k5,cond_true,cond_false]
  exact Sim.w (Sim.put (Q0i [40]) (Sim.bind (Q5l w.words_ hl hw) (Sim.put (Q0i [41]) Sim.id)))
 by_cases k6:w.kind_=6
 ·have k4:¬ w.kind_=4:=by omega
  simp only[decide_eq_false k1,decide_eq_false k2,decide_eq_false k3,decide_eq_false k7,decide_eq_false k5,decide_eq_false k4,decide_eq_true k6,cond_true,cond_false]
  exact Sim.w (Sim.put (Q0i [96]) (Sim.bind (Z3b [123] w.cmd_ [125] hl2 hk) Sim.id)) (fun st=>by rw[Q2s];rfl)
 have k4:w.kind_=4:=by omega
 simp only[decide_eq_false k1,decide_eq_false k2,decide_eq_false k3,decide_eq_false k7,decide_eq_false k5,decide_eq_false k6,decide_eq_true k4,cond_true,cond_false]
 exact Sim.w (X3e w hl hw)
theorem J9x:∀n:Nat,(∀w:Word,nW w<n→nW w≤2000→smW w→rW w=true→RS (K158 n w) (pW w) (10000 * nW w-100))∧(∀c:Cmd,nC c<n→nC c≤2000→smC c→rC c=true→RS (K68 n c) (pC c) (10000 * nC c-100))
 | 0=>⟨fun _ h=>by omega,fun _ h=>by omega⟩
 | n+1=>by
   obtain⟨ihW,ihC⟩:=J9x n
   refine⟨fun w hn hb hs hr=>?_,fun c hn hb hs hr=>?_⟩
   ·show RS (F158 (K68 n) (K158 n) w) _ _
    have h1:=Q3y w
    have h2:=Q2b w.words_
    have h3:=Q1e w.cmd_
    have hp:=Z2q hr
    rw[Q4z]at hs
    exact X5y w hr (by omega) (by omega) (by omega) (fun x hx=>ihW x (by have:=Q1f hx;omega) (by have:=Q1f hx;omega) (Q3l hs.2.2.1 hx) (hp.1 x hx)) (fun x hx=>ihC x (by have:=Q0l hx;omega) (by have:=Q0l hx;omega) (Q0u hs.2.2.2 hx) (hp.2.1 x hx))
   show RS (F68 (K68 n) (K158 n) c) _ _
   have h1:=Q2c c
   have h2:=Q2b c.words_
   have h3:=Q1e c.kids_
   have h4:=Q6e c.redirs_
   obtain⟨p1,p2,p3,p4,p5⟩:=Q6b hr
   rw[Q4m]at hs
   obtain⟨s1,s2,s3,s4,s5⟩:=hs
   refine K1c c hr s1 (by omega) (by omega) (by omega) (fun x hx=>ihW x (by have:=Q1f hx;omega) (by have:=Q1f hx;omega) (Q3l s3 hx) (p1 x hx)) (fun r hx=>?_) (fun h17 x hx=>ihC x (by have:=Q0l hx;omega) (by have:=Q0l hx;omega) (Q0u s5 hx) (p3 h17 x hx)) (fun h17 k hk=>?_) (fun k hk=>?_)
   ·have g1:=Q6x hx
    have g2:=Q8m r
    have g6:=Z3j s4 hx
    rw[Z9p]at g6
    have g7:=g6
    rw[Q4z]at g7
    exact X6c r (p2 r hx) (by omega) (fun hk=>ihW _ (by omega) (by omega) g6 (rR_w (p2 r hx) hk))
   ·have g1:=Q0l hk
    have g2:=Q2c k
    have g3:=Q2b k.words_
    have g4:=Q1e k.kids_
    have g5:=Q0u s5 hk
    rw[Q4m]at g5
    have q:=Q6a (p4 h17 k hk)
    exact⟨⟨by omega,by omega,q.2.2⟩,fun x hx=>ihW x (by have:=Q1f hx;omega) (by have:=Q1f hx;omega) (Q3l g5.2.2.1 hx) (q.1 x hx),fun x hx=>ihC x (by have:=Q0l hx;omega) (by have:=Q0l hx;omega) (Q0u g5.2.2.2.2 hx) (q.2.1 x hx)⟩
   have g1:=Q0l hk
   have g2:=Q2c k
   have g4:=Q1e k.kids_
   have g5:=Q0u s5 hk
   rw[Q4m]at g5
   refine⟨by omega,fun h12 x hx=>ihC x (by have:=Q0l hx;omega) (by have:=Q0l hx;omega) (Q0u g5.2.2.2.2 hx) ?_⟩
   by_cases h17:c.kind_=17
   ·exact(Q6a (p4 h17 k hk)).2.1 x hx
   exact(Q6b (p3 h17 k hk)).2.2.1 (by omega) x hx
def Q9d(l:List Cmd):Bool:=(decide (szCs l≤1024)&&decide (dCs l≤32))&&l.all fun c=>lvl 4 c.kind_&&rC c
theorem Z9v{l:List Cmd}(h:Q9d l=true):∀x∈l,rC x=true:=fun x hx=>by
 rw[Q9d,Bool.and_eq_true]at h
 have:=List.all_eq_true.1 h.2 x hx
 rw[Bool.and_eq_true]at this
 exact this.2
theorem V4u(l:List Cmd)(hb:nCs l≤2000)(hs:smCs l):F17 l=some (bif Q9d l then((pIts l ([],[])).1,0)else([],1)):=by
 have hl:=Q1e l
 rw[F17,V4w l hb hs,Option.bind_some]
 show(bif !Q9d l then _ else _)=_
 cases hr:Q9d l with
 | false=>rfl
 | true=>
   obtain⟨l',e1,-,-,-⟩:=J3w (w66:=K66 BIG) l (by omega) (fun x hx=>(J5b BIG).2 x (by have:=Q0l hx;unfold BIG;omega) (by have:=Q0l hx;omega) (Q0u hs hx) (Z9v hr x hx)) [] [] (fun r h=>absurd h List.not_mem_nil) (by
    show([]:Str).length+(pend []).length+_≤LIM
    rw[show pend []=[] from rfl]
    unfold LIM
    simp only[List.length_nil]
    omega)
   rw[show pend []=[] from rfl]at e1
   rw[Bool.not_true,Q0c,e1,Option.bind_some]
   rfl
theorem V4t(l:List Cmd)(hb:nCs l≤2000)(hs:smCs l):F18 l=some (bif Q9d l then((pIts l ([],[])).1,0)else([],1)):=by
 have hl:=Q1e l
 rw[F18,V4v l hb hs,Option.bind_some]
 show(bif !Q9d l then _ else _)=_
 cases hr:Q9d l with
 | false=>rfl
 | true=>
   obtain⟨l',e1,-,-,-⟩:=J3v (w68:=K68 BIG) l (by omega) (fun x hx=>(J9x BIG).2 x (by have:=Q0l hx;unfold BIG;omega) (by have:=Q0l hx;omega) (Q0u hs hx) (Z9v hr x hx)) [] [] trivial (by
    show([]:Str).length+([]:Str).length+_≤LIM
    unfold LIM
    simp only[List.length_nil]
    omega)
   rw[Bool.not_true,Q0c,e1,Option.bind_some]
   rfl
theorem J0l(l:List Cmd)(hok:okCs l)(hl:l.length≤maxLen):F5 l=some true:=by
 obtain⟨b,e,hb⟩:=K2c l hok hl
 rw[F5,e,Option.bind_some,J8s]
 cases b with
 | false=>rfl
 | true=>
   obtain⟨h1,h2⟩:=hb rfl
   rw[Bool.not_true,Q0c,V4u l h1 h2,V4t l h1 h2]
   cases Q9d l with
   | false=>rfl
   | true=>
     show(Q0d (decide ((pIts l ([],[])).1=(pIts l ([],[])).1)&&decide ((0:Int)=0)) (some true)).bind _=_
     rw[decide_eq_true rfl,decide_eq_true rfl]
     rfl
end Go.Abs.U48
set_option maxRecDepth 100000
namespace Go.Abs.U48
open Go Go.Proofs
theorem J5e:∀ {l:List Word},(∀x∈l,okW x)→okWs l
 | [],_=>by rw[okWs];trivial
 | x::r,h=>by rw[okWs];exact⟨h x (List.mem_cons_self ..),J5e fun y hy=>h y (List.mem_cons_of_mem _ hy)⟩
theorem J5f:∀ {l:List Redir},(∀x∈l,okR x)→okRs l
 | [],_=>by rw[okRs];trivial
 | x::r,h=>by rw[okRs];exact⟨h x (List.mem_cons_self ..),J5f fun y hy=>h y (List.mem_cons_of_mem _ hy)⟩
theorem J5g:∀ {l:List Cmd},(∀x∈l,okC x)→okCs l
 | [],_=>by rw[okCs];trivial
 | x::r,h=>by rw[okCs];exact⟨h x (List.mem_cons_self ..),J5g fun y hy=>h y (List.mem_cons_of_mem _ hy)⟩
theorem tyr:∀n:Nat,
 (∀p,Q1s Tryz.prog n 49 p→∃x:Word,p=x.pv∧okW x)∧(∀p,Q1s Tryz.prog n 36 p→∃x:Cmd,p=x.pv∧okC x)∧(∀p,Q1s Tryz.prog n 51 p→∃x:Redir,p=x.pv∧okR x)∧
 (∀p,Q1s Tryz.prog n 33 p→∃xs:List Word,p=.slice (xs.map Word.pv)∧xs.length≤maxLen∧okWs xs)∧(∀p,Q1s Tryz.prog n 23 p→∃xs:List Cmd,p=.slice (xs.map Cmd.pv)∧xs.length≤maxLen∧okCs xs)∧(∀p,Q1s Tryz.prog n 34 p→∃xs:List Redir,p=.slice (xs.map Redir.pv)∧xs.length≤maxLen∧okRs xs)
 | 0=>⟨fun p h=>h.elim,fun p h=>h.elim,fun p h=>h.elim,fun p h=>h.elim,fun p h=>h.elim,fun p h=>h.elim⟩
 | n+1=>by
   obtain⟨iW,iC,iR,iWs,iCs,iRs⟩:=tyr n
   refine⟨fun p h=>?_,fun p h=>?_,fun p h=>?_,fun p h=>?_,fun p h=>?_,fun p h=>?_⟩
   ·rw[Q1s]at h
    simp only[Tryz.underlying49]at h
    obtain⟨qs,rfl,hl,hq⟩:=h
    match qs,hl with
    | [q0,q1,q2,q3,q4],_=>
      obtain⟨x0,rfl,_⟩:=ty_3 n (hq 0 _ q0 rfl rfl).mono
      obtain⟨x1,rfl,w1⟩:=ty_9 n (hq 1 _ q1 rfl rfl).mono
      obtain⟨x2,rfl,w2⟩:=ty_9 n (hq 2 _ q2 rfl rfl).mono
      obtain⟨x3,rfl,w3,w3'⟩:=iWs _ (hq 3 _ q3 rfl rfl)
      obtain⟨x4,rfl,w4,w4'⟩:=iCs _ (hq 4 _ q4 rfl rfl)
      exact⟨⟨x0,x1,x2,x3,x4⟩,by rw[Word.pv_eq];rfl,by rw[okW];exact⟨w1,w2,w3,w4,w3',w4'⟩⟩
   ·rw[Q1s]at h
    simp only[Tryz.underlying36]at h
    obtain⟨qs,rfl,hl,hq⟩:=h
    match qs,hl with
    | [q0,q1,q2,q3,q4,q5],_=>
      obtain⟨x0,rfl,_⟩:=ty_3 n (hq 0 _ q0 rfl rfl).mono
      obtain⟨x1,rfl,_⟩:=ty_3 n (hq 1 _ q1 rfl rfl).mono
      obtain⟨x2,rfl,w2⟩:=ty_9 n (hq 2 _ q2 rfl rfl).mono
      obtain⟨x3,rfl,w3,w3'⟩:=iWs _ (hq 3 _ q3 rfl rfl)
      obtain⟨x4,rfl,w4,w4'⟩:=iRs _ (hq 4 _ q4 rfl rfl)
      obtain⟨x5,rfl,w5,w5'⟩:=iCs _ (hq 5 _ q5 rfl rfl)
      exact⟨⟨x0,x1,x2,x3,x4,x5⟩,by rw[Cmd.pv_eq];rfl,by rw[okC];exact⟨w2,w3,w4,w5,w3',w4',w5'⟩⟩
   ·rw[Q1s]at h
    simp only[Tryz.underlying51]at h
    obtain⟨qs,rfl,hl,hq⟩:=h
    match qs,hl with
    | [q0,q1,q2,q3,q4],_=>
      obtain⟨x0,rfl,_⟩:=ty_3 n (hq 0 _ q0 rfl rfl).mono
      obtain⟨x1,rfl,_⟩:=ty_3 n (hq 1 _ q1 rfl rfl).mono
      obtain⟨x2,rfl,_⟩:=ty_3 n (hq 2 _ q2 rfl rfl).mono
      obtain⟨x3,rfl,w3⟩:=iW _ (hq 3 _ q3 rfl rfl)
      obtain⟨x4,rfl,_⟩:=ty_4 n (hq 4 _ q4 rfl rfl).mono
      exact⟨⟨x0,x1,x2,x3,x4⟩,by rw[Redir.pv_eq,Word.pv_eq];rfl,by rw[okR];exact w3⟩
   ·rw[Q1s]at h
    simp only[Tryz.underlying33]at h
    obtain⟨xs,rfl,hl,hx⟩:=h
    obtain⟨ys,rfl,hw⟩:=J5u (f:=Word.pv) (W:=okW) fun x hm=>iW x (hx x hm).1
    exact⟨ys,rfl,by rw[List.length_map]at hl;exact hl,J5e hw⟩
   ·rw[Q1s]at h
    simp only[Tryz.underlying23]at h
    obtain⟨xs,rfl,hl,hx⟩:=h
    obtain⟨ys,rfl,hw⟩:=J5u (f:=Cmd.pv) (W:=okC) fun x hm=>iC x (hx x hm).1
    exact⟨ys,rfl,by rw[List.length_map]at hl;exact hl,J5g hw⟩
   rw[Q1s]at h
   simp only[Tryz.underlying34]at h
   obtain⟨xs,rfl,hl,hx⟩:=h
   obtain⟨ys,rfl,hw⟩:=J5u (f:=Redir.pv) (W:=okR) fun x hm=>iR x (hx x hm).1
   exact⟨ys,rfl,by rw[List.length_map]at hl;exact hl,J5f hw⟩
theorem K2j(n:Nat){p:PV}(h:Q1s Tryz.prog n 23 p):∃x:List Cmd,p=.slice (List.map Cmd.pv x)∧x.length≤maxLen∧okCs x:=(tyr n).2.2.2.2.1 p h
end Go.Abs.U48
namespace Go.Abs.U48
open Go Go.Proofs
theorem law5(l:List Cmd)(w:l.length≤maxLen∧okCs l):F5 l=some true:=J0l l w.2 w.1
end Go.Abs.U48
