import Derived.Test.YtljahlbklgnfhaaGreatDoorA39
import Derived.Test.YtljahlbklgnfhaaGreatDoorD1
import Derived.Lib.IndexAny
import Derived.Test.YtljahlbklgnfhaaGreatDoorAK
import Derived.Test.YtljahlbklgnfhaaGreatDoorTY
import Derived.Test.YtljahlbklgnfhaaGreatDoorA43
set_option linter.unusedVariables false
set_option linter.unusedSimpArgs false
set_option linter.defProp false
namespace Go.Abs.U48
open Go Go.Proofs
mutual
def nW:Word→Nat
 | ⟨_,_,_,ws,cs⟩=>1+nWs ws+nCs cs
def nWs:List Word→Nat
 | []=>0
 | w::r=>nW w+nWs r
def nC:Cmd→Nat
 | ⟨_,_,_,ws,rs,ks⟩=>1+nWs ws+nCs ks+nRs rs
def nCs:List Cmd→Nat
 | []=>0
 | c::r=>nC c+nCs r
def nR:Redir→Nat
 | ⟨_,_,_,w,_⟩=>nW w
def nRs:List Redir→Nat
 | []=>0
 | r::s=>nR r+nRs s
end
theorem nW_eq(w:Word):nW w=1+nWs w.words_+nCs w.cmd_:=by obtain⟨_,_,_,ws,cs⟩:=w;rw[nW]
theorem nC_eq(c:Cmd):nC c=1+nWs c.words_+nCs c.kids_+nRs c.redirs_:=by obtain⟨_,_,_,ws,rs,ks⟩:=c;rw[nC]
theorem nR_eq(r:Redir):nR r=nW r.word_:=by obtain⟨_,_,_,w,_⟩:=r;rw[nR]
mutual
def okW:Word→Prop
 | ⟨_,t,q,ws,cs⟩=>t.length≤maxLen∧q.length≤maxLen∧ws.length≤maxLen∧cs.length≤maxLen∧okWs ws∧okCs cs
def okWs:List Word→Prop
 | []=>True
 | w::r=>okW w∧okWs r
def okC:Cmd→Prop
 | ⟨_,_,nm,ws,rs,ks⟩=>nm.length≤maxLen∧ws.length≤maxLen∧rs.length≤maxLen∧ks.length≤maxLen∧okWs ws∧okRs rs∧okCs ks
def okCs:List Cmd→Prop
 | []=>True
 | c::r=>okC c∧okCs r
def okR:Redir→Prop
 | ⟨_,_,_,w,_⟩=>okW w
def okRs:List Redir→Prop
 | []=>True
 | r::s=>okR r∧okRs s
end
theorem okW_eq(w:Word):okW w=(w.text_.length≤maxLen∧w.quoted_.length≤maxLen∧w.words_.length≤maxLen∧w.cmd_.length≤maxLen∧okWs w.words_∧okCs w.cmd_):=by obtain⟨_,_,_,ws,cs⟩:=w;rw[okW]
theorem okC_eq(c:Cmd):okC c=(c.name_.length≤maxLen∧c.words_.length≤maxLen∧c.redirs_.length≤maxLen∧c.kids_.length≤maxLen∧okWs c.words_∧okRs c.redirs_∧okCs c.kids_):=by obtain⟨_,_,_,ws,rs,ks⟩:=c;rw[okC]
theorem okR_eq(r:Redir):okR r=okW r.word_:=by obtain⟨_,_,_,w,_⟩:=r;rw[okR]
mutual
def smW:Word→Prop
 | ⟨_,t,q,ws,cs⟩=>t.length≤2000∧q.length≤2000∧smWs ws∧smCs cs
def smWs:List Word→Prop
 | []=>True
 | w::r=>smW w∧smWs r
def smC:Cmd→Prop
 | ⟨_,_,nm,ws,rs,ks⟩=>nm.length≤2000∧rs.length≤2000∧smWs ws∧smRs rs∧smCs ks
def smCs:List Cmd→Prop
 | []=>True
 | c::r=>smC c∧smCs r
def smR:Redir→Prop
 | ⟨_,_,_,w,_⟩=>smW w
def smRs:List Redir→Prop
 | []=>True
 | r::s=>smR r∧smRs s
end
theorem smW_eq(w:Word):smW w=(w.text_.length≤2000∧w.quoted_.length≤2000∧smWs w.words_∧smCs w.cmd_):=by obtain⟨_,_,_,ws,cs⟩:=w;rw[smW]
theorem smC_eq(c:Cmd):smC c=(c.name_.length≤2000∧c.redirs_.length≤2000∧smWs c.words_∧smRs c.redirs_∧smCs c.kids_):=by obtain⟨_,_,_,ws,rs,ks⟩:=c;rw[smC]
theorem smR_eq(r:Redir):smR r=smW r.word_:=by obtain⟨_,_,_,w,_⟩:=r;rw[smR]
theorem cond_t{α:Type}(x y:α):(bif true then x else y)=x:=rfl
theorem cond_f{α:Type}(x y:α):(bif false then x else y)=y:=rfl
def Cnt(left r:Int)(n:Nat)(sm:Prop):Prop:=(-1≤r∧r≤left)∧(0≤r→r+(n:Int)=left∧sm)
theorem loop62(l:List Word)(hl:l.length≤maxLen)(w62:List Word→Int→Option Int)(w28:List Cmd→Int→Option Int)(B:Int)(hB:B≤2000)
 (h62:∀ (x:List Word) (left:Int),-1≤left→left<B→okWs x→x.length≤maxLen→∃r,w62 x left=some r∧Cnt left r (nWs x) (smWs x))
 (h28:∀ (x:List Cmd) (left:Int),-1≤left→left<B→okCs x→x.length≤maxLen→∃r,w28 x left=some r∧Cnt left r (nCs x) (smCs x)):
 ∀ (n j:Nat) (left:Int),j≤l.length→l.length-j<n→left≤B→-1≤left→okWs (l.drop j)→∃r,iter (F62_b1 l w62 w28) n (left,(j:Int))=some r∧Cnt left r (nWs (l.drop j)) (smWs (l.drop j))
 | 0,j,left,_,h,_,_,_=>by omega
 | n+1,j,left,hj,hn,hlB,hlo,hok=>by
   unfold maxLen at hl
   show ∃r,F62_b1 l w62 w28 (iter (F62_b1 l w62 w28) n) (left,(j:Int))=some r∧_
   rw[F62_b1]
   by_cases hc:j<l.length
   ·rw[drop_at hc,okWs,okW_eq]at hok
    obtain⟨⟨t1,t2,t3,t4,o1,o2⟩,hok⟩:=hok
    rw[drop_at hc,nWs,smWs,nW_eq,smW_eq]
    rw[decide_eq_true (p:=((j:Int)<(l.length:Int))) (by omega),cond_t,wrap64 (n:=left-1) (by omega) (by omega),lidx_at hc]
    by_cases h1:left-1<0
    ·refine⟨-1,?_,by omega,fun h=>by omega⟩
     rw[decide_eq_true (p:=(left-1<0)) h1]
     rfl
    ·rw[decide_eq_false (p:=(left-1<0)) h1]
     show ∃r,(bif ((false||decide (2000<(l[j].text_.length:Int)))||decide (2000<(l[j].quoted_.length:Int)))then some (-1)else _)=some r∧_
     by_cases h2:l[j].text_.length≤2000∧l[j].quoted_.length≤2000
     ·rw[decide_eq_false (p:=(2000<(l[j].text_.length:Int))) (by omega),decide_eq_false (p:=(2000<(l[j].quoted_.length:Int))) (by omega),Bool.or_self,Bool.or_self,cond_f,Option.bind_some]
      obtain⟨r1,e1,a1,b1⟩:=h62 l[j].words_ (left-1) (by omega) (by omega) o1 t3
      rw[e1,Option.bind_some]
      obtain⟨r2,e2,a2,b2⟩:=h28 l[j].cmd_ r1 (by omega) (by omega) o2 t4
      rw[e2,Option.bind_some]
      by_cases h3:r2<0
      ·rw[decide_eq_true h3,cond_t]
       exact⟨-1,rfl,by omega,fun h=>by omega⟩
      ·rw[decide_eq_false h3,cond_f,wrap64 (by omega) (by omega)]
       obtain⟨c2,d2⟩:=b2 (by omega)
       obtain⟨c1,d1⟩:=b1 (by omega)
       obtain⟨r3,e3,a3,b3⟩:=loop62 l (by unfold maxLen;omega) w62 w28 B hB h62 h28 n (j+1) r2 (by omega) (by omega) (by omega) (by omega) hok
       refine⟨r3,e3,by omega,fun h=>?_⟩
       obtain⟨c3,d3⟩:=b3 h
       exact⟨by omega,⟨h2.1,h2.2,d1,d2⟩,d3⟩
     ·have:((false||decide (2000<(l[j].text_.length:Int)))||decide (2000<(l[j].quoted_.length:Int)))=true:=by
       simp only[Bool.false_or,Bool.or_eq_true,decide_eq_true_eq]
       omega
      rw[this,cond_t]
      exact⟨-1,rfl,by omega,fun h=>by omega⟩
   ·rw[decide_eq_false (by omega),cond_f,List.drop_eq_nil_of_le (by omega),nWs,smWs]
    exact⟨left,rfl,⟨by omega,Int.le_refl _⟩,fun h=>⟨by omega,trivial⟩⟩
theorem loop28r(u:Cmd)(hl:u.redirs_.length≤maxLen)(w62:List Word→Int→Option Int)(again7:Int×Int→Option Int)(i6:Int)(B:Int)(hB:B≤2000)
 (h62:∀ (x:List Word) (left:Int),-1≤left→left<B→okWs x→x.length≤maxLen→∃r,w62 x left=some r∧Cnt left r (nWs x) (smWs x)):
 ∀ (n j:Nat) (left:Int),j≤u.redirs_.length→u.redirs_.length-j<n→left<B→-1≤left→okRs (u.redirs_.drop j)→
  ∃r,iter (F28_b3 u w62 again7 i6) n (left,(j:Int))=(bif decide (r<0)then some (-1)else again7 (r,IntKind.wrap .i64 (i6+1)))∧Cnt left r (nRs (u.redirs_.drop j)) (smRs (u.redirs_.drop j))
 | 0,j,left,_,h,_,_,_=>by omega
 | n+1,j,left,hj,hn,hlB,hlo,hok=>by
   unfold maxLen at hl
   show ∃r,F28_b3 u w62 again7 i6 (iter (F28_b3 u w62 again7 i6) n) (left,(j:Int))=_∧_
   rw[F28_b3]
   by_cases hc:j<u.redirs_.length
   ·rw[drop_at hc,okRs,okR_eq]at hok
    rw[drop_at hc,nRs,smRs,nR_eq,smR_eq]
    rw[decide_eq_true (p:=((j:Int)<(u.redirs_.length:Int))) (by omega),cond_t,lidx_at hc,Option.bind_some]
    obtain⟨r1,e1,a1,b1⟩:=h62 [u.redirs_[j].word_] left hlo hlB ⟨hok.1,trivial⟩ (by unfold maxLen;simp)
    rw[e1,Option.bind_some,wrap64 (by omega) (by omega)]
    obtain⟨r3,e3,a3,b3⟩:=loop28r u (by unfold maxLen;omega) w62 again7 i6 B hB h62 n (j+1) r1 (by omega) (by omega) (by omega) (by omega) hok.2
    refine⟨r3,e3,by omega,fun h=>?_⟩
    obtain⟨c3,d3⟩:=b3 h
    obtain⟨c1,d1⟩:=b1 (by omega)
    rw[nWs,nWs]at c1
    rw[smWs]at d1
    exact⟨by omega,d1.1,d3⟩
   ·rw[decide_eq_false (p:=((j:Int)<(u.redirs_.length:Int))) (by omega),cond_f,List.drop_eq_nil_of_le (by omega),nRs,smRs]
    exact⟨left,rfl,⟨by omega,Int.le_refl _⟩,fun h=>⟨by omega,trivial⟩⟩
theorem loop28(l:List Cmd)(hl:l.length≤maxLen)(w62:List Word→Int→Option Int)(w28:List Cmd→Int→Option Int)(B:Int)(hB:B≤2000)
 (h62:∀ (x:List Word) (left:Int),-1≤left→left<B→okWs x→x.length≤maxLen→∃r,w62 x left=some r∧Cnt left r (nWs x) (smWs x))
 (h28:∀ (x:List Cmd) (left:Int),-1≤left→left<B→okCs x→x.length≤maxLen→∃r,w28 x left=some r∧Cnt left r (nCs x) (smCs x)):
 ∀ (n j:Nat) (left:Int),j≤l.length→l.length-j<n→left≤B→0≤left→okCs (l.drop j)→∃r,iter (F28_b2 l w62 w28) n (left,(j:Int))=some r∧Cnt left r (nCs (l.drop j)) (smCs (l.drop j))
 | 0,j,left,_,h,_,_,_=>by omega
 | n+1,j,left,hj,hn,hlB,hlo,hok=>by
   unfold maxLen at hl
   show ∃r,F28_b2 l w62 w28 (iter (F28_b2 l w62 w28) n) (left,(j:Int))=some r∧_
   rw[F28_b2]
   by_cases hc:j<l.length
   ·rw[drop_at hc,okCs,okC_eq]at hok
    obtain⟨⟨t1,t2,t3,t4,o1,o2,o3⟩,hok⟩:=hok
    rw[drop_at hc,nCs,smCs,nC_eq,smC_eq]
    rw[decide_eq_true (p:=((j:Int)<(l.length:Int))) (by omega),cond_t,wrap64 (n:=left-1) (by omega) (by omega),lidx_at hc]
    by_cases h1:left-1<0
    ·refine⟨-1,?_,by omega,fun h=>by omega⟩
     rw[decide_eq_true (p:=(left-1<0)) h1]
     rfl
    ·rw[decide_eq_false (p:=(left-1<0)) h1]
     show ∃r,(bif ((false||decide (2000<(l[j].name_.length:Int)))||decide (left-1<(l[j].redirs_.length:Int)))then some (-1)else _)=some r∧_
     by_cases h2:l[j].name_.length≤2000∧(l[j].redirs_.length:Int)≤left-1
     ·rw[decide_eq_false (p:=(2000<(l[j].name_.length:Int))) (by omega),decide_eq_false (p:=(left-1<(l[j].redirs_.length:Int))) (by omega),Bool.or_self,Bool.or_self,cond_f,Option.bind_some]
      obtain⟨r1,e1,a1,b1⟩:=h62 l[j].words_ (left-1) (by omega) (by omega) o1 t2
      rw[e1,Option.bind_some]
      obtain⟨r2,e2,a2,b2⟩:=h28 l[j].kids_ r1 (by omega) (by omega) o3 t4
      rw[e2,Option.bind_some]
      obtain⟨r3,e3,a3,b3⟩:=loop28r l[j] t3 w62 (iter (F28_b2 l w62 w28) n) (j:Int) B hB h62 BIG 0 r2 (Nat.zero_le _) (by unfold maxLen at t3;unfold BIG;omega) (by omega) (by omega) (by rw[List.drop_zero];exact o2)
      rw[show((0:Nat):Int)=0 from rfl]at e3
      rw[e3]
      rw[List.drop_zero]at b3
      by_cases h3:r3<0
      ·rw[decide_eq_true h3,cond_t]
       exact⟨-1,rfl,by omega,fun h=>by omega⟩
      ·rw[decide_eq_false h3,cond_f,wrap64 (by omega) (by omega)]
       obtain⟨c3,d3⟩:=b3 (by omega)
       obtain⟨c2,d2⟩:=b2 (by omega)
       obtain⟨c1,d1⟩:=b1 (by omega)
       obtain⟨r4,e4,a4,b4⟩:=loop28 l (by unfold maxLen;omega) w62 w28 B hB h62 h28 n (j+1) r3 (by omega) (by omega) (by omega) (by omega) hok
       refine⟨r4,e4,by omega,fun h=>?_⟩
       obtain⟨c4,d4⟩:=b4 h
       exact⟨by omega,⟨h2.1,by omega,d1,d3,d2⟩,d4⟩
     ·have:((false||decide (2000<(l[j].name_.length:Int)))||decide (left-1<(l[j].redirs_.length:Int)))=true:=by
       simp only[Bool.false_or,Bool.or_eq_true,decide_eq_true_eq]
       omega
      rw[this,cond_t]
      exact⟨-1,rfl,by omega,fun h=>by omega⟩
   ·rw[decide_eq_false (by omega),cond_f,List.drop_eq_nil_of_le (by omega),nCs,smCs]
    exact⟨left,rfl,⟨by omega,Int.le_refl _⟩,fun h=>⟨by omega,trivial⟩⟩
theorem count_any:∀n:Nat,
 (∀ (x:List Word) (left:Int),-1≤left→left+2≤n→left≤2000→okWs x→x.length≤maxLen→∃r,K62 n x left=some r∧Cnt left r (nWs x) (smWs x))∧
 (∀ (x:List Cmd) (left:Int),-1≤left→left+2≤n→left≤2000→okCs x→x.length≤maxLen→∃r,K28 n x left=some r∧Cnt left r (nCs x) (smCs x))
 | 0=>⟨fun x left h1 h2=>by omega,fun x left h1 h2=>by omega⟩
 | n+1=>by
   obtain⟨ih1,ih2⟩:=count_any n
   refine⟨fun x left h1 h2 h3 ho hl=>?_,fun x left h1 h2 h3 ho hl=>?_⟩
   ·show ∃r,F62 (K28 n) (K62 n) x left=some r∧_
    rw[F62]
    have:=loop62 x hl (K62 n) (K28 n) left h3 (fun y l2 g1 g2 go gl=>ih1 y l2 g1 (by omega) (by omega) go gl) (fun y l2 g1 g2 go gl=>ih2 y l2 g1 (by omega) (by omega) go gl) BIG 0 left (Nat.zero_le _) (by unfold maxLen at hl;unfold BIG;omega) (Int.le_refl _) h1 (by rw[List.drop_zero];exact ho)
    rw[List.drop_zero]at this
    exact this
   ·show ∃r,F28 (K28 n) (K62 n) x left=some r∧_
    rw[F28]
    by_cases h0:left<0
    ·rw[decide_eq_true h0,cond_t]
     exact⟨-1,rfl,⟨by omega,by omega⟩,fun h=>by omega⟩
    ·rw[decide_eq_false h0,cond_f]
     have:=loop28 x hl (K62 n) (K28 n) left h3 (fun y l2 g1 g2 go gl=>ih1 y l2 g1 (by omega) (by omega) go gl) (fun y l2 g1 g2 go gl=>ih2 y l2 g1 (by omega) (by omega) go gl) BIG 0 left (Nat.zero_le _) (by unfold maxLen at hl;unfold BIG;omega) (Int.le_refl _) (by omega) (by rw[List.drop_zero];exact ho)
     rw[List.drop_zero]at this
     exact this
theorem F12_any(l:List Cmd)(hok:okCs l)(hl:l.length≤maxLen):∃b,F12 l=some b∧(b=true→nCs l≤2000∧smCs l):=by
 obtain⟨r,e,⟨h1,h2⟩,h3⟩:=(count_any BIG).2 l 2000 (by omega) (by unfold BIG;omega) (by omega) hok hl
 rw[F12,e,Option.bind_some]
 refine⟨_,rfl,fun h=>?_⟩
 have h0:0≤r:=of_decide_eq_true h
 obtain⟨c,d⟩:=h3 h0
 exact⟨by omega,d⟩
end Go.Abs.U48
namespace Go.Abs.U48
open Go Go.Proofs
def sumL{α:Type}(f:α→Nat):List α→Nat
 | []=>0
 | x::r=>f x+sumL f r
def maxL{α:Type}(f:α→Nat):List α→Nat
 | []=>0
 | x::r=>max (f x) (maxL f r)
theorem loop_sum{α R:Type}(f:α→Nat)(w:α→Option Int)(fin:Int→Option R):∀ (l:List α) (i:Int) (s:Nat),(∀x∈l,w x=some (f x:Int))→s+sumL f l≤1000000→
 loopS (fun u _ k (s:Int)=>(w u).bind fun r=>k (IntKind.wrap .i64 (s+r))) fin l i (s:Int)=fin ((s+sumL f l:Nat):Int)
 | [],i,s,_,_=>by rw[loopS,sumL];rfl
 | x::r,i,s,hw,hb=>by
   rw[sumL]at hb
   rw[loopS,hw x (by simp),Option.bind_some,wrap64 (by omega) (by omega),show(s:Int)+(f x:Int)=((s+f x:Nat):Int)by omega,loop_sum f w fin r (i+1) (s+f x) (fun y hy=>hw y (by simp[hy])) (by omega),sumL]
   congr 2
   omega
theorem imax_nat(a b:Nat):imax (a:Int) (b:Int)=((max a b:Nat):Int):=by
 unfold imax
 split<;>omega
theorem loop_max{α R:Type}(f:α→Nat)(w:α→Option Int)(fin:Int→Option R):∀ (l:List α) (i:Int) (s:Nat),(∀x∈l,w x=some (f x:Int))→
 loopS (fun u _ k (s:Int)=>(w u).bind fun r=>k (imax s r)) fin l i (s:Int)=fin ((max s (maxL f l):Nat):Int)
 | [],i,s,_=>by rw[loopS,maxL,Nat.max_zero]
 | x::r,i,s,hw=>by
   rw[loopS,hw x (by simp),Option.bind_some,imax_nat,loop_max f w fin r (i+1) (max s (f x)) (fun y hy=>hw y (by simp[hy])),maxL,Nat.max_assoc]
theorem loop_any{α:Type}(p:α→Bool)(w:α→Option Bool):∀ (l:List α) (i:Nat),(∀x∈l,w x=some (p x))→
 ∃r:Int,loopR (fun u i k=>(w u).bind fun r=>bif r then some i else k) (some (-1)) l (i:Int)=some r∧decide (0≤r)=l.any p
 | [],i,_=>⟨-1,rfl,rfl⟩
 | x::r,i,hw=>by
   rw[loopR,hw x (by simp),Option.bind_some,List.any_cons]
   cases p x with
   | true=>exact⟨i,rfl,by rw[decide_eq_true (by omega)];rfl⟩
   | false=>exact loop_any p w r (i+1) (fun y hy=>hw y (by simp[hy]))
theorem loop_all{α:Type}(p:α→Bool)(w:α→Option Bool)(fin:Bool):∀ (l:List α) (i:Int),(∀x∈l,w x=some (p x))→
 loopR (fun u _ k=>(w u).bind fun r=>bif !r then some false else k) (some fin) l i=some (l.all p&&fin)
 | [],i,_=>by rw[loopR];rfl
 | x::r,i,hw=>by
   rw[loopR,hw x (by simp),Option.bind_some,List.all_cons]
   cases p x with
   | true=>rw[Bool.not_true,cond_f,loop_all p w fin r (i+1) (fun y hy=>hw y (by simp[hy])),Bool.true_and]
   | false=>rfl
def hasW(r:Redir):Bool:=!decide (r.kind_=5)&&!decide (r.kind_=6)
mutual
def szW:Word→Nat
 | ⟨_,_,_,ws,cs⟩=>1+szWs ws+szCs cs
def szWs:List Word→Nat
 | []=>0
 | w::r=>szW w+szWs r
def szC:Cmd→Nat
 | ⟨_,_,_,ws,rs,ks⟩=>1+rs.length+szCs ks+szWs ws+szRs rs
def szCs:List Cmd→Nat
 | []=>0
 | c::r=>szC c+szCs r
def szR:Redir→Nat
 | ⟨k,_,_,w,_⟩=>bif !decide (k=5)&&!decide (k=6)then szW w else 0
def szRs:List Redir→Nat
 | []=>0
 | r::s=>szR r+szRs s
end
theorem szW_eq(w:Word):szW w=1+szWs w.words_+szCs w.cmd_:=by obtain⟨_,_,_,ws,cs⟩:=w;rw[szW]
theorem szC_eq(c:Cmd):szC c=1+c.redirs_.length+szCs c.kids_+szWs c.words_+szRs c.redirs_:=by obtain⟨_,_,_,ws,rs,ks⟩:=c;rw[szC]
theorem szR_eq(r:Redir):szR r=bif hasW r then szW r.word_ else 0:=by obtain⟨_,_,_,w,_⟩:=r;rw[szR,hasW]
theorem szWs_sum:∀l,szWs l=sumL szW l
 | []=>by rw[szWs];rfl
 | x::r=>by rw[szWs,szWs_sum r];rfl
theorem szCs_sum:∀l,szCs l=sumL szC l
 | []=>by rw[szCs];rfl
 | x::r=>by rw[szCs,szCs_sum r];rfl
theorem szRs_sum:∀l,szRs l=sumL szR l
 | []=>by rw[szRs];rfl
 | x::r=>by rw[szRs,szRs_sum r];rfl
mutual
theorem szW_le:∀w:Word,szW w+3≤4 * nW w
 | ⟨_,_,_,ws,cs⟩=>by
   have:=szWs_le ws
   have:=szCs_le cs
   rw[szW,nW]
   omega
theorem szWs_le:∀l:List Word,szWs l≤4 * nWs l
 | []=>by rw[szWs];omega
 | w::r=>by
   have:=szW_le w
   have:=szWs_le r
   rw[szWs,nWs]
   omega
theorem szC_le:∀c:Cmd,szC c+3≤4 * nC c
 | ⟨_,_,_,ws,rs,ks⟩=>by
   have:=szWs_le ws
   have:=szCs_le ks
   have:=szRs_le rs
   rw[szC,nC]
   omega
theorem szCs_le:∀l:List Cmd,szCs l≤4 * nCs l
 | []=>by rw[szCs];omega
 | c::r=>by
   have:=szC_le c
   have:=szCs_le r
   rw[szCs,nCs]
   omega
theorem szR_le:∀r:Redir,szR r+1≤4 * nR r
 | ⟨k,_,_,w,_⟩=>by
   have:=szW_le w
   rw[szR,nR]
   cases(!decide (k=5)&&!decide (k=6))
   ·show 0+1≤_
    omega
   ·show szW w+1≤_
    omega
theorem szRs_le:∀l:List Redir,szRs l+l.length≤4 * nRs l
 | []=>by rw[szRs];simp
 | r::s=>by
   have:=szR_le r
   have:=szRs_le s
   rw[szRs,nRs,List.length_cons]
   omega
end
theorem nWs_len:∀l:List Word,l.length≤nWs l
 | []=>by rw[nWs];simp
 | w::r=>by
   have:=nWs_len r
   rw[nWs,nW_eq,List.length_cons]
   omega
theorem nCs_len:∀l:List Cmd,l.length≤nCs l
 | []=>by rw[nCs];simp
 | w::r=>by
   have:=nCs_len r
   rw[nCs,nC_eq,List.length_cons]
   omega
theorem nRs_len:∀l:List Redir,l.length≤nRs l
 | []=>by rw[nRs];simp
 | w::r=>by
   have:=nRs_len r
   rw[nRs,nR_eq,nW_eq,List.length_cons]
   omega
theorem nW_mem:∀ {l:List Word} {w:Word},w∈l→nW w≤nWs l
 | x::r,w,h=>by
   rw[nWs]
   rcases List.mem_cons.1 h with rfl|h
   ·omega
   ·have:=nW_mem h
    omega
theorem nC_mem:∀ {l:List Cmd} {w:Cmd},w∈l→nC w≤nCs l
 | x::r,w,h=>by
   rw[nCs]
   rcases List.mem_cons.1 h with rfl|h
   ·omega
   ·have:=nC_mem h
    omega
theorem nR_mem:∀ {l:List Redir} {w:Redir},w∈l→nR w≤nRs l
 | x::r,w,h=>by
   rw[nRs]
   rcases List.mem_cons.1 h with rfl|h
   ·omega
   ·have:=nR_mem h
    omega
theorem sumW_le{l:List Word}:sumL szW l≤4 * nWs l:=by rw[←szWs_sum];exact szWs_le l
theorem sumC_le{l:List Cmd}:sumL szC l≤4 * nCs l:=by rw[←szCs_sum];exact szCs_le l
theorem w15r{R:Type}(w31:Word→Option Int)(again5:Int×Int→Option R)(i4:Int):∀ (l:List Redir) (i:Int) (s:Nat),(∀r∈l,w31 r.word_=some (szW r.word_:Int))→s+sumL szR l≤1000000→
 loopS (fun(u:Redir) _ k (s:Int)=>(F32 u).bind fun r36=>bif r36 then(w31 u.word_).bind fun r40=>k (IntKind.wrap .i64 (s+r40))else k s) (fun s=>again5 (s,i4)) l i (s:Int)=again5 (((s+sumL szR l:Nat):Int),i4)
 | [],i,s,_,_=>rfl
 | x::r,i,s,hw,hb=>by
   rw[sumL]at hb
   have ih:=fun t ht=>w15r w31 again5 i4 r (i+1) t (fun y hy=>hw y (by simp[hy])) ht
   have hx:=hw x (by simp)
   have hR:=szR_eq x
   rw[loopS,F32,Option.bind_some]
   rw[show(!decide (x.kind_=5)&&!decide (x.kind_=6))=hasW x from rfl]
   cases hh:hasW x with
   | true=>
     rw[hh,cond_t]at hR
     rw[cond_t,hx,Option.bind_some,wrap64 (by omega) (by omega),show(s:Int)+(szW x.word_:Int)=((s+szW x.word_:Nat):Int)by omega,ih _ (by omega),sumL,hR,Nat.add_assoc]
   | false=>
     rw[hh,cond_f]at hR
     rw[cond_f,ih _ (by omega),sumL,hR,Nat.zero_add]
theorem size_is:∀n:Nat,(∀w:Word,nW w<n→nW w≤2000→K31 n w=some (szW w:Int))∧(∀l:List Cmd,nCs l<n→nCs l≤2000→K15 n l=some (szCs l:Int))
 | 0=>⟨fun _ h=>by omega,fun _ h=>by omega⟩
 | n+1=>by
   obtain⟨ihW,ihC⟩:=size_is n
   refine⟨fun w hn hb=>?_,fun l hn hb=>?_⟩
   ·show F31 (K15 n) (K31 n) w=_
    have hnW:=nW_eq w
    have hl:=nWs_len w.words_
    have hs:=sumW_le (l:=w.words_)
    have hs2:=szCs_le w.cmd_
    rw[F31,ihC w.cmd_ (by omega) (by omega),Option.bind_some,wrap64 (by omega) (by omega),show(1:Int)+(szCs w.cmd_:Int)=((1+szCs w.cmd_:Nat):Int)by omega]
    rw[iter_rangeT (body:=F31_b1 w (K31 n)) w.words_ (fun u _ k (s:Int)=>(K31 n u).bind fun r=>k (IntKind.wrap .i64 (s+r))) (fun s=>some s) (fun _ _ _=>rfl) (by omega)]
    rw[loop_sum szW (K31 n) _ w.words_ 0 (1+szCs w.cmd_) (fun x hx=>ihW x (by have:=nW_mem hx;omega) (by have:=nW_mem hx;omega)) (by omega),szW_eq,szWs_sum]
    congr 2
    omega
   ·show F15 (K15 n) (K31 n) l=_
    have hl:=nCs_len l
    have hs:=sumC_le (l:=l)
    rw[F15]
    have body:∀u∈l,∀ (again5:Int×Int→Option Int) (i4:Int) (s:Nat),s+szC u≤1000000→((K15 n u.kids_).bind fun r12=>iter (F15_b4 u (K31 n) again5 i4) BIG (IntKind.wrap .i64 ((s:Int)+(IntKind.wrap .i64 ((IntKind.wrap .i64 (1+(u.redirs_.length:Int)))+r12))),0))=again5 (((s+szC u:Nat):Int),IntKind.wrap .i64 (i4+1)):=by
     intro u hu again5 i4 s hsb
     have h1:=nC_mem hu
     have h2:=nC_eq u
     have h3:=szC_eq u
     have h4:=nWs_len u.words_
     have h5:=nRs_len u.redirs_
     have h6:=szCs_le u.kids_
     have h7:=szRs_sum u.redirs_
     have h8:=szWs_sum u.words_
     rw[ihC u.kids_ (by omega) (by omega),Option.bind_some,wrap64 (n:=1+(u.redirs_.length:Int)) (by omega) (by omega),wrap64 (n:=1+(u.redirs_.length:Int)+(szCs u.kids_:Int)) (by omega) (by omega),wrap64 (by omega) (by omega),
      show(s:Int)+(1+(u.redirs_.length:Int)+(szCs u.kids_:Int))=((s+(1+u.redirs_.length+szCs u.kids_):Nat):Int)by omega]
     rw[iter_rangeT (body:=F15_b4 u (K31 n) again5 i4) u.words_ (fun v _ k (s:Int)=>(K31 n v).bind fun r=>k (IntKind.wrap .i64 (s+r))) (fun s=>iter (F15_b5 u (K31 n) again5 i4) BIG (s,0)) (fun _ _ _=>rfl) (by omega)]
     rw[loop_sum szW (K31 n) _ u.words_ 0 _ (fun x hx=>ihW x (by have:=nW_mem hx;omega) (by have:=nW_mem hx;omega)) (by omega)]
     rw[iter_rangeT (body:=F15_b5 u (K31 n) again5 i4) u.redirs_ (fun(v:Redir) _ k (s:Int)=>(F32 v).bind fun r36=>bif r36 then(K31 n v.word_).bind fun r40=>k (IntKind.wrap .i64 (s+r40))else k s) (fun s=>again5 (s,IntKind.wrap .i64 (i4+1))) (fun again i s=>by rw[F15_b5]) (by omega)]
     rw[w15r (K31 n) again5 _ u.redirs_ 0 _ (fun r hr=>ihW r.word_ (by have:=nR_mem hr;have:=nR_eq r;omega) (by have:=nR_mem hr;have:=nR_eq r;omega)) (by omega)]
     congr 3
     omega
    have main:∀ (m j:Nat) (s:Nat),j≤l.length→l.length-j<m→s+sumL szC (l.drop j)≤1000000→iter (F15_b3 l (K15 n) (K31 n)) m ((s:Int),(j:Int))=some ((s+sumL szC (l.drop j):Nat):Int):=by
     intro m
     induction m with
     | zero=>intro j s hj h;omega
     | succ m ih=>
       intro j s hj hm hsb
       show F15_b3 l (K15 n) (K31 n) (iter (F15_b3 l (K15 n) (K31 n)) m) ((s:Int),(j:Int))=_
       rw[F15_b3]
       by_cases hc:j<l.length
       ·rw[drop_at hc,sumL]at hsb
        rw[decide_eq_true (by omega),cond_t,lidx_at hc,Option.bind_some,body _ (List.getElem_mem hc) _ _ s (by omega),wrap64 (by omega) (by omega)]
        have:=ih (j+1) (s+szC l[j]) (by omega) (by omega) (by omega)
        rw[drop_at hc,sumL,←Nat.add_assoc,←this]
        rfl
       ·rw[decide_eq_false (by omega),cond_f,List.drop_eq_nil_of_le (by omega)]
        rfl
    have:=main BIG 0 0 (Nat.zero_le _) (by unfold BIG;omega) (by rw[List.drop_zero];omega)
    rw[List.drop_zero,Nat.zero_add,←szCs_sum]at this
    exact this
theorem loop_sum2{α R:Type}(f g:α→Nat)(w v:α→Option Int)(fin:Int→Option R):∀ (l:List α) (i:Int) (s:Nat),(∀x∈l,w x=some (f x:Int)∧v x=some (g x:Int))→s+sumL (fun x=>f x+g x) l≤1000000→
 loopS (fun u _ k (s:Int)=>(w u).bind fun r=>(v u).bind fun q=>k (IntKind.wrap .i64 (IntKind.wrap .i64 (s+r)+q))) fin l i (s:Int)=fin ((s+sumL (fun x=>f x+g x) l:Nat):Int)
 | [],i,s,_,_=>by rw[loopS,sumL];rfl
 | x::r,i,s,hw,hb=>by
   rw[sumL]at hb
   rw[loopS,(hw x (by simp)).1,Option.bind_some,(hw x (by simp)).2,Option.bind_some,wrap64 (n:=(s:Int)+(f x:Int)) (by omega) (by omega),wrap64 (by omega) (by omega),show(s:Int)+(f x:Int)+(g x:Int)=((s+(f x+g x):Nat):Int)by omega,loop_sum2 f g w v fin r (i+1) _ (fun y hy=>hw y (by simp[hy])) (by omega),sumL]
   congr 2
   omega
theorem F34_eq(d:Redir):F34 d=some (bif hasW d then[d.word_]else[]):=by
 rw[F34,hasW]
 cases decide (d.kind_=5)<;>cases decide (d.kind_=6)<;>rfl
theorem szR_t(r:Redir):szWs (bif hasW r then[r.word_]else[])=szR r:=by
 rw[szR_eq]
 cases hasW r
 ·rw[cond_f,cond_f,szWs]
 ·rw[cond_t,cond_t,szWs,szWs,Nat.add_zero]
theorem nR_t(r:Redir):nWs (bif hasW r then[r.word_]else[])≤nR r:=by
 rw[nR_eq]
 cases hasW r
 ·rw[cond_f,nWs];omega
 ·rw[cond_t,nWs,nWs];omega
theorem sumL_len{α:Type}(f:α→Nat)(h:α→Nat)(e:∀x,f x=1+h x):∀l:List α,sumL f l=l.length+sumL h l
 | []=>rfl
 | x::r=>by rw[sumL,sumL,sumL_len f h e r,e,List.length_cons];omega
theorem rsize_is:∀n:Nat,(∀l:List Word,nWs l<n→nWs l≤2000→K33 n l=some (szWs l:Int))∧(∀l:List Cmd,nCs l<n→nCs l≤2000→K16 n l=some (szCs l:Int))
 | 0=>⟨fun _ h=>by omega,fun _ h=>by omega⟩
 | n+1=>by
   obtain⟨ihW,ihC⟩:=rsize_is n
   refine⟨fun l hn hb=>?_,fun l hn hb=>?_⟩
   ·show F33 (K16 n) (K33 n) l=_
    have hl:=nWs_len l
    have hs:=sumW_le (l:=l)
    have he:=sumL_len szW (fun w=>szWs w.words_+szCs w.cmd_) (fun w=>by rw[szW_eq];omega) l
    rw[F33,iter_rangeT (body:=F33_b1 l (K33 n) (K16 n)) l (fun u _ k (s:Int)=>(K33 n u.words_).bind fun r=>(K16 n u.cmd_).bind fun q=>k (IntKind.wrap .i64 (IntKind.wrap .i64 (s+r)+q))) (fun s=>some s) (fun _ _ _=>rfl) (by omega)]
    rw[loop_sum2 (fun w=>szWs w.words_) (fun w=>szCs w.cmd_) (fun u=>K33 n u.words_) (fun u=>K16 n u.cmd_) _ l 0 l.length (fun x hx=>?_) (by omega),szWs_sum]
    ·congr 2
     omega
    ·have h1:=nW_mem hx
     have h2:=nW_eq x
     exact⟨ihW _ (by omega) (by omega),ihC _ (by omega) (by omega)⟩
   ·show F16 (K16 n) (K33 n) l=_
    have hl:=nCs_len l
    have hs:=sumC_le (l:=l)
    rw[F16]
    have body:∀u∈l,∀ (again5:Int×Int→Option Int) (i4:Int) (s:Nat),s+szC u≤1000000→((K33 n u.words_).bind fun r12=>(K16 n u.kids_).bind fun r15=>iter (F16_b3 u (K33 n) again5 i4) BIG (IntKind.wrap .i64 ((IntKind.wrap .i64 ((IntKind.wrap .i64 ((s:Int)+r12))+r15))+(u.redirs_.length:Int)),0))=again5 (((s+(szC u-1):Nat):Int),IntKind.wrap .i64 (i4+1)):=by
     intro u hu again5 i4 s hsb
     have h1:=nC_mem hu
     have h2:=nC_eq u
     have h3:=szC_eq u
     have h5:=nRs_len u.redirs_
     have h6:=szCs_le u.kids_
     have h7:=szRs_sum u.redirs_
     rw[ihW u.words_ (by omega) (by omega),Option.bind_some,ihC u.kids_ (by omega) (by omega),Option.bind_some,wrap64 (n:=(s:Int)+(szWs u.words_:Int)) (by omega) (by omega),wrap64 (n:=(s:Int)+(szWs u.words_:Int)+(szCs u.kids_:Int)) (by omega) (by omega),wrap64 (by omega) (by omega),
      show(s:Int)+(szWs u.words_:Int)+(szCs u.kids_:Int)+(u.redirs_.length:Int)=((s+szWs u.words_+szCs u.kids_+u.redirs_.length:Nat):Int)by omega]
     rw[iter_rangeT (body:=F16_b3 u (K33 n) again5 i4) u.redirs_ (fun(v:Redir) _ k (s:Int)=>(F34 v).bind fun r27=>(K33 n r27).bind fun r=>k (IntKind.wrap .i64 (s+r))) (fun s=>again5 (s,IntKind.wrap .i64 (i4+1))) (fun _ _ _=>rfl) (by omega)]
     have e:(fun(v:Redir) (_:Int) (k:Int→Option Int) (s:Int)=>(F34 v).bind fun r27=>(K33 n r27).bind fun r=>k (IntKind.wrap .i64 (s+r)))=(fun(v:Redir) (_:Int) (k:Int→Option Int) (s:Int)=>((F34 v).bind (K33 n)).bind fun r=>k (IntKind.wrap .i64 (s+r))):=by
      funext v i k s
      rw[F34_eq]
      rfl
     rw[e,loop_sum szR (fun v=>(F34 v).bind (K33 n)) _ u.redirs_ 0 _ (fun x hx=>?_) (by omega)]
     ·congr 3
      omega
     ·have h8:=nR_mem hx
      have h9:=nR_t x
      rw[F34_eq,Option.bind_some,ihW _ (by omega) (by omega),szR_t]
    have main:∀ (m j:Nat) (s:Nat),j≤l.length→l.length-j<m→s+sumL szC (l.drop j)≤1000000→iter (F16_b2 l (K33 n) (K16 n)) m ((s:Int),(j:Int))=some ((s+(sumL szC (l.drop j)-(l.length-j)):Nat):Int)∧l.length-j≤sumL szC (l.drop j):=by
     intro m
     induction m with
     | zero=>intro j s hj h;omega
     | succ m ih=>
       intro j s hj hm hsb
       show F16_b2 l (K33 n) (K16 n) (iter (F16_b2 l (K33 n) (K16 n)) m) ((s:Int),(j:Int))=_∧_
       rw[F16_b2]
       by_cases hc:j<l.length
       ·rw[drop_at hc,sumL]at hsb
        rw[decide_eq_true (by omega),cond_t,lidx_at hc,Option.bind_some,body _ (List.getElem_mem hc) _ _ s (by omega),wrap64 (by omega) (by omega)]
        obtain⟨e1,e2⟩:=ih (j+1) (s+(szC l[j]-1)) (by omega) (by omega) (by omega)
        have h1:=szC_eq l[j]
        rw[drop_at hc,sumL]
        refine⟨?_,by omega⟩
        rw[show((j:Int)+1)=((j+1:Nat):Int)by omega,e1]
        congr 2
        omega
       ·rw[decide_eq_false (by omega),cond_f,List.drop_eq_nil_of_le (by omega)]
        refine⟨?_,by omega⟩
        rw[sumL]
        congr 2
        omega
    obtain⟨e1,e2⟩:=main BIG 0 l.length (Nat.zero_le _) (by unfold BIG;omega) (by rw[List.drop_zero];omega)
    rw[List.drop_zero]at e1 e2
    rw[show((0:Nat):Int)=0 from rfl]at e1
    rw[e1,szCs_sum]
    congr 2
    omega
mutual
def dW:Word→Nat
 | ⟨_,_,_,ws,cs⟩=>max (dWs ws) (dCs cs)+1
def dWs:List Word→Nat
 | []=>0
 | w::r=>max (dW w) (dWs r)
def dC:Cmd→Nat
 | ⟨_,_,_,ws,rs,ks⟩=>max (max (dCs ks) (dWs ws)) (dRs rs)+1
def dCs:List Cmd→Nat
 | []=>0
 | c::r=>max (dC c) (dCs r)
def dR:Redir→Nat
 | ⟨k,_,_,w,_⟩=>bif !decide (k=5)&&!decide (k=6)then dW w else 0
def dRs:List Redir→Nat
 | []=>0
 | r::s=>max (dR r) (dRs s)
end
theorem dW_eq(w:Word):dW w=max (dWs w.words_) (dCs w.cmd_)+1:=by obtain⟨_,_,_,ws,cs⟩:=w;rw[dW]
theorem dC_eq(c:Cmd):dC c=max (max (dCs c.kids_) (dWs c.words_)) (dRs c.redirs_)+1:=by obtain⟨_,_,_,ws,rs,ks⟩:=c;rw[dC]
theorem dR_eq(r:Redir):dR r=bif hasW r then dW r.word_ else 0:=by obtain⟨_,_,_,w,_⟩:=r;rw[dR,hasW]
theorem dWs_max:∀l,dWs l=maxL dW l
 | []=>by rw[dWs];rfl
 | x::r=>by rw[dWs,dWs_max r];rfl
theorem dCs_max:∀l,dCs l=maxL dC l
 | []=>by rw[dCs];rfl
 | x::r=>by rw[dCs,dCs_max r];rfl
theorem dRs_max:∀l,dRs l=maxL dR l
 | []=>by rw[dRs];rfl
 | x::r=>by rw[dRs,dRs_max r];rfl
mutual
theorem dW_le:∀w:Word,dW w≤nW w
 | ⟨_,_,_,ws,cs⟩=>by
   have:=dWs_le ws
   have:=dCs_le cs
   rw[dW,nW]
   omega
theorem dWs_le:∀l:List Word,dWs l≤nWs l
 | []=>by rw[dWs];omega
 | w::r=>by
   have:=dW_le w
   have:=dWs_le r
   rw[dWs,nWs]
   omega
theorem dC_le:∀c:Cmd,dC c≤nC c
 | ⟨_,_,_,ws,rs,ks⟩=>by
   have:=dWs_le ws
   have:=dCs_le ks
   have:=dRs_le rs
   rw[dC,nC]
   omega
theorem dCs_le:∀l:List Cmd,dCs l≤nCs l
 | []=>by rw[dCs];omega
 | c::r=>by
   have:=dC_le c
   have:=dCs_le r
   rw[dCs,nCs]
   omega
theorem dR_le:∀r:Redir,dR r≤nR r
 | ⟨k,_,_,w,_⟩=>by
   have:=dW_le w
   rw[dR,nR]
   cases(!decide (k=5)&&!decide (k=6))
   ·exact Nat.zero_le _
   ·exact this
theorem dRs_le:∀l:List Redir,dRs l≤nRs l
 | []=>by rw[dRs];omega
 | r::s=>by
   have:=dR_le r
   have:=dRs_le s
   rw[dRs,nRs]
   omega
end
theorem w51r{R:Type}(w86:Word→Option Int)(fin:Int→Option R):∀ (l:List Redir) (i:Int) (s:Nat),(∀r∈l,w86 r.word_=some (dW r.word_:Int))→
 loopS (fun(u:Redir) _ k (s:Int)=>(F32 u).bind fun r36=>bif r36 then(w86 u.word_).bind fun r40=>k (imax s r40)else k s) fin l i (s:Int)=fin ((max s (maxL dR l):Nat):Int)
 | [],i,s,_=>by rw[loopS,maxL,Nat.max_zero]
 | x::r,i,s,hw=>by
   have ih:=fun t=>w51r w86 fin r (i+1) t (fun y hy=>hw y (by simp[hy]))
   have hx:=hw x (by simp)
   have hR:=dR_eq x
   rw[loopS,F32,Option.bind_some,maxL]
   rw[show(!decide (x.kind_=5)&&!decide (x.kind_=6))=hasW x from rfl]
   cases hh:hasW x with
   | true=>
     rw[hh,cond_t]at hR
     rw[cond_t,hx,Option.bind_some,imax_nat,ih,hR,Nat.max_assoc]
   | false=>
     rw[hh,cond_f]at hR
     rw[cond_f,ih,hR,Nat.zero_max]
theorem depth_is:∀n:Nat,(∀w:Word,nW w<n→nW w≤2000→K86 n w=some (dW w:Int))∧(∀c:Cmd,nC c<n→nC c≤2000→K51 n c=some (dC c:Int))
 | 0=>⟨fun _ h=>by omega,fun _ h=>by omega⟩
 | n+1=>by
   obtain⟨ihW,ihC⟩:=depth_is n
   refine⟨fun w hn hb=>?_,fun c hn hb=>?_⟩
   ·show F86 (K51 n) (K86 n) w=_
    have h1:=nW_eq w
    have h2:=nWs_len w.words_
    have h3:=nCs_len w.cmd_
    have h4:=dW_le w
    rw[F86,iter_rangeT (body:=F86_b1 w (K86 n) (K51 n)) w.words_ (fun v _ k (s:Int)=>(K86 n v).bind fun r=>k (imax s r)) (fun s=>iter (F86_b2 w (K51 n)) BIG (s,0)) (fun _ _ _=>rfl) (by omega)]
    rw[show(0:Int)=((0:Nat):Int) from rfl,loop_max dW (K86 n) _ w.words_ _ 0 (fun x hx=>ihW x (by have:=nW_mem hx;omega) (by have:=nW_mem hx;omega))]
    rw[show((0:Nat):Int)=0 from rfl,iter_rangeT (body:=F86_b2 w (K51 n)) w.cmd_ (fun v _ k (s:Int)=>(K51 n v).bind fun r=>k (imax s r)) (fun s=>some (IntKind.wrap .i64 (s+1))) (fun _ _ _=>rfl) (by omega)]
    rw[loop_max dC (K51 n) _ w.cmd_ _ _ (fun x hx=>ihC x (by have:=nC_mem hx;omega) (by have:=nC_mem hx;omega))]
    have h5:=dW_eq w
    rw[dWs_max,dCs_max]at h5
    rw[wrap64 (by omega) (by omega)]
    congr 1
    omega
   ·show F51 (K51 n) (K86 n) c=_
    have h1:=nC_eq c
    have h2:=nWs_len c.words_
    have h3:=nCs_len c.kids_
    have h6:=nRs_len c.redirs_
    have h4:=dC_le c
    rw[F51,iter_rangeT (body:=F51_b1 c (K51 n) (K86 n)) c.kids_ (fun v _ k (s:Int)=>(K51 n v).bind fun r=>k (imax s r)) (fun s=>iter (F51_b2 c (K86 n)) BIG (s,0)) (fun _ _ _=>rfl) (by omega)]
    rw[show(0:Int)=((0:Nat):Int) from rfl,loop_max dC (K51 n) _ c.kids_ _ 0 (fun x hx=>ihC x (by have:=nC_mem hx;omega) (by have:=nC_mem hx;omega))]
    rw[show((0:Nat):Int)=0 from rfl,iter_rangeT (body:=F51_b2 c (K86 n)) c.words_ (fun v _ k (s:Int)=>(K86 n v).bind fun r=>k (imax s r)) (fun s=>iter (F51_b3 c (K86 n)) BIG (s,0)) (fun _ _ _=>rfl) (by omega)]
    rw[loop_max dW (K86 n) _ c.words_ _ _ (fun x hx=>ihW x (by have:=nW_mem hx;omega) (by have:=nW_mem hx;omega))]
    rw[iter_rangeT (body:=F51_b3 c (K86 n)) c.redirs_ (fun(v:Redir) _ k (s:Int)=>(F32 v).bind fun r36=>bif r36 then(K86 n v.word_).bind fun r40=>k (imax s r40)else k s) (fun s=>some (IntKind.wrap .i64 (s+1))) (fun again i s=>by rw[F51_b3]) (by omega)]
    rw[w51r (K86 n) _ c.redirs_ _ _ (fun r hr=>ihW r.word_ (by have:=nR_mem hr;have:=nR_eq r;omega) (by have:=nR_mem hr;have:=nR_eq r;omega))]
    have h5:=dC_eq c
    rw[dWs_max,dCs_max,dRs_max]at h5
    rw[wrap64 (by omega) (by omega)]
    congr 1
    omega
theorem dR_t(r:Redir):dWs (bif hasW r then[r.word_]else[])=dR r:=by
 rw[dR_eq]
 cases hasW r
 ·rw[cond_f,cond_f,dWs]
 ·rw[cond_t,cond_t,dWs,dWs,Nat.max_zero]
theorem rdepth_is:∀n:Nat,(∀l:List Word,nWs l<n→nWs l≤2000→K61 n l=some (dWs l:Int))∧(∀l:List Cmd,nCs l<n→nCs l≤2000→K25 n l=some (dCs l:Int))
 | 0=>⟨fun _ h=>by omega,fun _ h=>by omega⟩
 | n+1=>by
   obtain⟨ihW,ihC⟩:=rdepth_is n
   refine⟨fun l hn hb=>?_,fun l hn hb=>?_⟩
   ·show F61 (K25 n) (K61 n) l=_
    have hl:=nWs_len l
    rw[F61,iter_rangeT (body:=F61_b1 l (K61 n) (K25 n)) l (fun u _ k (s:Int)=>(K61 n u.words_).bind fun r=>(K25 n u.cmd_).bind fun q=>k (imax s (IntKind.wrap .i64 (1+(imax r q))))) (fun s=>some s) (fun _ _ _=>rfl) (by omega)]
    have e:(fun(u:Word) (_:Int) (k:Int→Option Int) (s:Int)=>(K61 n u.words_).bind fun r=>(K25 n u.cmd_).bind fun q=>k (imax s (IntKind.wrap .i64 (1+(imax r q)))))=(fun(u:Word) (_:Int) (k:Int→Option Int) (s:Int)=>((K61 n u.words_).bind fun r=>(K25 n u.cmd_).bind fun q=>some (IntKind.wrap .i64 (1+(imax r q)))).bind fun r=>k (imax s r)):=by
     funext u i k s
     rw[Option.bind_assoc]
     congr 1
     funext r
     rw[Option.bind_assoc]
     rfl
    rw[e,show(0:Int)=((0:Nat):Int) from rfl,loop_max dW _ _ l _ 0 (fun x hx=>?_),Nat.zero_max,dWs_max]
    have h1:=nW_mem hx
    have h2:=nW_eq x
    have h3:=dW_le x
    have h4:=dW_eq x
    rw[ihW _ (by omega) (by omega),Option.bind_some,ihC _ (by omega) (by omega),Option.bind_some,imax_nat,wrap64 (by omega) (by omega)]
    congr 1
    omega
   ·show F25 (K25 n) (K61 n) l=_
    have hl:=nCs_len l
    rw[F25]
    have body:∀u∈l,∀ (again5:Int×Int→Option Int) (i4:Int) (s:Nat),((K61 n u.words_).bind fun r12=>(K25 n u.kids_).bind fun r15=>iter (F25_b3 u (K61 n) again5 (s:Int) i4) BIG (imax r12 r15,0))=again5 (((max s (dC u):Nat):Int),IntKind.wrap .i64 (i4+1)):=by
     intro u hu again5 i4 s
     have h1:=nC_mem hu
     have h2:=nC_eq u
     have h3:=dC_eq u
     have h5:=nRs_len u.redirs_
     have h6:=dC_le u
     rw[ihW u.words_ (by omega) (by omega),Option.bind_some,ihC u.kids_ (by omega) (by omega),Option.bind_some,imax_nat]
     rw[iter_rangeT (body:=F25_b3 u (K61 n) again5 (s:Int) i4) u.redirs_ (fun(v:Redir) _ k (s:Int)=>(F34 v).bind fun r27=>(K61 n r27).bind fun r=>k (imax s r)) (fun d=>again5 (imax (s:Int) (IntKind.wrap .i64 (1+d)),IntKind.wrap .i64 (i4+1))) (fun _ _ _=>rfl) (by omega)]
     have e:(fun(v:Redir) (_:Int) (k:Int→Option Int) (s:Int)=>(F34 v).bind fun r27=>(K61 n r27).bind fun r=>k (imax s r))=(fun(v:Redir) (_:Int) (k:Int→Option Int) (s:Int)=>((F34 v).bind (K61 n)).bind fun r=>k (imax s r)):=by
      funext v i k s
      rw[F34_eq]
      rfl
     rw[e,loop_max dR (fun v=>(F34 v).bind (K61 n)) _ u.redirs_ 0 _ (fun x hx=>?_)]
     ·rw[dRs_max]at h3
      rw[wrap64 (by omega) (by omega),show(1:Int)+((max (max (dWs u.words_) (dCs u.kids_)) (maxL dR u.redirs_):Nat):Int)=((dC u:Nat):Int)by omega,imax_nat]
     ·have h8:=nR_mem hx
      have h9:=nR_t x
      rw[F34_eq,Option.bind_some,ihW _ (by omega) (by omega),dR_t]
    have main:∀ (m j:Nat) (s:Nat),j≤l.length→l.length-j<m→iter (F25_b2 l (K61 n) (K25 n)) m ((s:Int),(j:Int))=some ((max s (maxL dC (l.drop j)):Nat):Int):=by
     intro m
     induction m with
     | zero=>intro j s hj h;omega
     | succ m ih=>
       intro j s hj hm
       show F25_b2 l (K61 n) (K25 n) (iter (F25_b2 l (K61 n) (K25 n)) m) ((s:Int),(j:Int))=_
       rw[F25_b2]
       by_cases hc:j<l.length
       ·rw[decide_eq_true (by omega),cond_t,lidx_at hc,Option.bind_some,body _ (List.getElem_mem hc) _ _ s,wrap64 (by omega) (by omega)]
        have e1:=ih (j+1) (max s (dC l[j])) (by omega) (by omega)
        rw[drop_at hc,maxL]
        rw[show((j:Int)+1)=((j+1:Nat):Int)by omega,e1,Nat.max_assoc]
       ·rw[decide_eq_false (by omega),cond_f,List.drop_eq_nil_of_le (by omega),maxL,Nat.max_zero]
    have e1:=main BIG 0 0 (Nat.zero_le _) (by unfold BIG;omega)
    rw[List.drop_zero,Nat.zero_max,←dCs_max]at e1
    exact e1
theorem maxL_le{α:Type}(f:α→Nat)(b:Nat):∀l:List α,decide (maxL f l≤b)=!(l.any fun x=>decide (b<f x))
 | []=>by rw[maxL];simp
 | x::r=>by
   rw[maxL,List.any_cons,Bool.not_or,←maxL_le f b r]
   by_cases h1:b<f x
   ·rw[decide_eq_true h1,decide_eq_false (by omega)];rfl
   ·rw[decide_eq_false h1]
    show _=(true&&_)
    rw[Bool.true_and]
    congr 1
    exact propext ⟨fun h=>by omega,fun h=>by omega⟩
theorem F21_is(l:List Cmd)(hb:nCs l≤2000):F21 l=some (decide (szCs l≤1024)&&decide (dCs l≤32)):=by
 have hl:=nCs_len l
 rw[F21,(size_is BIG).2 l (by unfold BIG;omega) hb,Option.bind_some]
 by_cases h1:szCs l≤1024
 ·rw[decide_eq_true (p:=((szCs l:Int)≤1024)) (by omega),cond_t,decide_eq_true h1,Bool.true_and,F49,F85]
  rw[iter_range (body:=F85_b1 l) l (fun u i k=>(F50 u).bind fun r=>bif r then some i else k) (some (-1)) (fun _ _=>rfl) (by omega)]
  obtain⟨r,e1,e2⟩:=loop_any (fun c=>decide (32<dC c)) F50 l 0 (fun x hx=>by
   have h2:=nC_mem hx
   rw[F50,(depth_is BIG).2 x (by unfold BIG;omega) (by omega),Option.bind_some]
   congr 1
   exact decide_eq_decide.2 (by omega))
  rw[show((0:Nat):Int)=0 from rfl]at e1
  rw[e1,Option.bind_some,Option.bind_some,e2,dCs_max,maxL_le]
 ·rw[decide_eq_false (p:=((szCs l:Int)≤1024)) (by omega),cond_f,decide_eq_false h1,Bool.false_and]
end Go.Abs.U48
namespace Go.Abs.U48
open Go Go.Proofs
def isnc(c:Int):Bool:=((((decide (97≤c)&&decide (c≤122))||(decide (65≤c)&&decide (c≤90)))||(decide (48≤c)&&decide (c≤57)))||decide (c=95))||decide (c=42)
def nameB(s:Str):Bool:=(s.map B).all isnc&&!decide (s=[])
theorem F172_is(s:Str)(hl:s.length≤9223372036854775807):F172 s=some (nameB s):=by
 rw[F172,iter_rangeB (body:=F172_b1 s) s (fun c _ k=>(some (isnc c)).bind fun r=>bif !r then some false else k) (some (!decide (s=[]))) (fun _ _=>rfl) hl]
 exact loop_all isnc (fun c=>some (isnc c)) _ (s.map B) 0 (fun _ _=>rfl)
theorem isnc_not(c:Int):(((((decide (c<97)||decide (122<c))&&(decide (c<65)||decide (90<c)))&&(decide (c<48)||decide (57<c)))&&!decide (c=95))&&!decide (c=42))=!isnc c:=by
 have h:∀a b:Int,decide (a<b)=!decide (b≤a):=fun a b=>by
  by_cases h:a<b
  ·rw[decide_eq_true h,decide_eq_false (by omega)];rfl
  ·rw[decide_eq_false h,decide_eq_true (by omega)];rfl
 rw[isnc,h c 97,h 122 c,h c 65,h 90 c,h c 48,h 57 c]
 simp only[Bool.not_or,Bool.not_and]
theorem F144_is(s:Str)(hl:s.length≤9223372036854775807):F144 s=some (nameB s):=by
 rw[F144,iter_rangeB (body:=F144_b1 s) s (fun c _ k=>(some (isnc c)).bind fun r=>bif !r then some false else k) (some (!decide (s=[]))) (fun again i=>by
  rw[F144_b1]
  simp only[isnc_not]
  rfl) hl]
 exact loop_all isnc (fun c=>some (isnc c)) _ (s.map B) 0 (fun _ _=>rfl)
def markedB(q:Str):Bool:=q.contains 49
theorem F171_is(q:Str)(hl:q.length≤9223372036854775807):F171 q=some (markedB q):=by
 rw[F171,iter_rangeB (body:=F171_b1 q) q (fun c _ k=>bif decide (c=49)then some true else k) (some false) (fun _ _=>rfl) hl]
 have:∀ (q:Str) (i:Int),loopR (fun(c:Int) _ k=>bif decide (c=49)then some true else k) (some false) (q.map B) i=some (markedB q):=by
  intro q
  induction q with
  | nil=>intro i;rfl
  | cons c r ih=>
    intro i
    rw[List.map_cons,loopR,markedB,List.contains_cons]
    have hb:=byte_eq c 49
    rw[show decide (B c=49)=decide (c=49) from hb]
    by_cases h:c=49
    ·subst h;rfl
    ·rw[decide_eq_false h,cond_f,ih,markedB]
     have:((49:UInt8)==c)=false:=by rw[beq_eq_false_iff_ne];exact fun e=>h e.symm
     rw[this,Bool.false_or]
 exact this q 0
theorem idx_lt(q:Str)(c:UInt8):decide (Lib.indexByte q c<0)=!q.contains c:=by
 rw[Lib.contains_iff_indexByte]
 by_cases h:Lib.indexByte q c<0
 ·rw[decide_eq_true h,decide_eq_false (by omega)];rfl
 ·rw[decide_eq_false h,decide_eq_true (by omega)];rfl
theorem L_IndexByte_49(q:Str):L_IndexByte q 49=some (Lib.indexByte q 49):=rfl
def keyB(s:Str):Bool:=((((((decide (s=[105,102])||decide (s=[119,104,105,108,101]))||decide (s=[102,111,114]))||decide (s=[115,119,105,116,99,104]))||decide (s=[99,97,115,101]))||decide (s=[102,110]))||decide (s=[126]))
theorem F187_is(s:Str):F187 s=some (keyB s):=rfl
theorem contains_cons(b:UInt8)(l sub:Str):Lib.contains (b::l) sub=(sub.isPrefixOf (b::l)||Lib.contains l sub):=by
 unfold Lib.contains
 cases h0:sub.isPrefixOf (b::l)with
 | true=>
   have:Lib.index (b::l) sub=0:=by unfold Lib.index;rw[if_pos h0]
   rw[this];rfl
 | false=>
   rw[Bool.false_or]
   rcases Lib.index_spec l sub with⟨h1,_⟩|⟨i,h1,_⟩
   ·have:Lib.index (b::l) sub=-1:=by unfold Lib.index;rw[h0,h1];rfl
    rw[this,h1]
   ·have:Lib.index (b::l) sub=i+1:=by
     unfold Lib.index
     rw[h0,h1]
     have:((i:Int)==-1)=false:=by rw[beq_eq_false_iff_ne];omega
     simp[this]
    rw[this,h1,decide_eq_true (by omega),decide_eq_true (by omega)]
theorem contains_nil(b:UInt8)(sub:Str):Lib.contains [] (b::sub)=false:=rfl
theorem pre_sp:∀ (s w r:Str),(32:UInt8)∉s→(32:UInt8)∉w→List.isPrefixOf (s++[32]) (w++32::r)=decide (s=w)
 | [],[],r,_,_=>by simp[List.isPrefixOf]
 | [],b::w,r,_,hw=>by
   have:¬ (32:UInt8)=b:=fun e=>hw (by simp[e])
   simp[List.isPrefixOf,this]
 | a::s,[],r,hs,_=>by
   have:¬ a=(32:UInt8):=fun e=>hs (by simp[e])
   simp[List.isPrefixOf,this]
 | a::s,b::w,r,hs,hw=>by
   have ih:=pre_sp s w r (fun h=>hs (by simp[h])) (fun h=>hw (by simp[h]))
   rw[List.cons_append,List.cons_append,List.isPrefixOf,ih]
   by_cases h:a=b
   ·subst h
    simp
   ·simp[h]
theorem pre_end(s:Str):List.isPrefixOf (s++[32]) []=false:=by cases s<;>rfl
theorem pre_ne(b:UInt8)(x l:Str)(h:((32:UInt8)==b)=false):List.isPrefixOf (32::x) (b::l)=false:=by
 rw[List.isPrefixOf,h,Bool.false_and]
theorem pre_eq(x l:Str):List.isPrefixOf (32::x) (32::l)=x.isPrefixOf l:=by
 rw[List.isPrefixOf]
 rfl
def kwsB(s:Str):Bool:=decide (s=[105,102])||(decide (s=[110,111,116])||(decide (s=[119,104,105,108,101])||(decide (s=[102,111,114])||(decide (s=[105,110])||(decide (s=[115,119,105,116,99,104])||(decide (s=[99,97,115,101])||(decide (s=[102,110])||decide (s=[126]))))))))
theorem kw_contains(s:Str)(h:(32:UInt8)∉s):Lib.contains [32,105,102,32,110,111,116,32,119,104,105,108,101,32,102,111,114,32,105,110,32,115,119,105,116,99,104,32,99,97,115,101,32,102,110,32,126,32] (32::(s++[32]))=kwsB s:=by
 have p:=fun(w r:Str) hw=>pre_sp s w r h hw
 have p1:=p [105,102] [110,111,116,32,119,104,105,108,101,32,102,111,114,32,105,110,32,115,119,105,116,99,104,32,99,97,115,101,32,102,110,32,126,32] (by decide)
 have p2:=p [110,111,116] [119,104,105,108,101,32,102,111,114,32,105,110,32,115,119,105,116,99,104,32,99,97,115,101,32,102,110,32,126,32] (by decide)
 have p3:=p [119,104,105,108,101] [102,111,114,32,105,110,32,115,119,105,116,99,104,32,99,97,115,101,32,102,110,32,126,32] (by decide)
 have p4:=p [102,111,114] [105,110,32,115,119,105,116,99,104,32,99,97,115,101,32,102,110,32,126,32] (by decide)
 have p5:=p [105,110] [115,119,105,116,99,104,32,99,97,115,101,32,102,110,32,126,32] (by decide)
 have p6:=p [115,119,105,116,99,104] [99,97,115,101,32,102,110,32,126,32] (by decide)
 have p7:=p [99,97,115,101] [102,110,32,126,32] (by decide)
 have p8:=p [102,110] [126,32] (by decide)
 have p9:=p [126] [] (by decide)
 simp only[List.cons_append,List.nil_append]at p1 p2 p3 p4 p5 p6 p7 p8 p9
 have e:∀b:UInt8,((32:UInt8)==b)=false→∀l,Lib.contains (b::l) (32::(s++[32]))=Lib.contains l (32::(s++[32])):=fun b hb l=>by rw[contains_cons,pre_ne b _ l hb,Bool.false_or]
 have e32:∀l,Lib.contains (32::l) (32::(s++[32]))=(List.isPrefixOf (s++[32]) l||Lib.contains l (32::(s++[32]))):=fun l=>by rw[contains_cons,pre_eq]
 rw[e32,p1,e 105 rfl,e 102 rfl,e32,p2,e 110 rfl,e 111 rfl,e 116 rfl,e32,p3,e 119 rfl,e 104 rfl,e 105 rfl,e 108 rfl,e 101 rfl,e32,p4,e 102 rfl,e 111 rfl,e 114 rfl,e32,p5,e 105 rfl,e 110 rfl,e32,p6,e 115 rfl,e 119 rfl,e 105 rfl,e 116 rfl,e 99 rfl,e 104 rfl,e32,p7,e 99 rfl,e 97 rfl,e 115 rfl,e 101 rfl,e32,p8,e 102 rfl,e 110 rfl,e32,p9,e 126 rfl,e32,pre_end,contains_nil,Bool.or_false,Bool.or_false]
 rfl
theorem kwsB_sp{s:Str}(h:kwsB s=true):(32:UInt8)∉s∧s≠[]:=by
 simp only[kwsB,Bool.or_eq_true,decide_eq_true_eq]at h
 rcases h with rfl|rfl|rfl|rfl|rfl|rfl|rfl|rfl|rfl<;>decide
theorem guardO_t1{α:Type}[Inhabited α](x:Option α):guardO true x=x:=rfl
theorem F134_is(s:Str)(hl:s.length≤4000000000):F134 s=some (kwsB s):=by
 rw[F134]
 by_cases h0:s=[]
 ·subst h0
  rfl
 ·rw[decide_eq_false h0,Bool.not_false]
  show(L_IndexByte s 32).bind _=_
  rw[L_IndexByte,Option.bind_some]
  have hi:=idx_lt s 32
  rw[show(32:Int).toNat.toUInt8=(32:UInt8) from rfl]
  rw[hi]
  by_cases h1:(32:UInt8)∈s
  ·have:s.contains 32=true:=List.contains_iff_mem.2 h1
   rw[this]
   have h2:kwsB s=false:=by
    cases h:kwsB s
    ·rfl
    ·exact absurd h1 (kwsB_sp h).1
   rw[h2]
   rfl
  ·have:s.contains 32=false:=by
    cases h:s.contains 32
    ·rfl
    ·exact absurd (List.contains_iff_mem.1 h) h1
   rw[this]
   show(catO [32] s).bind _=_
   rw[catO,if_pos (by simp;omega),Option.bind_some]
   show(catO ([32]++s) [32]).bind _=_
   rw[catO,if_pos (by simp;omega),Option.bind_some]
   rw[Bool.not_false,Bool.true_and,guardO_t1,L_SContains,if_pos (by decide),Option.bind_some,show([32]++s++[32]:Str)=32::(s++[32]) from rfl,kw_contains s h1]
   rfl
theorem kws_key(s:Str):((!kwsB s||decide (s=[110,111,116]))||decide (s=[105,110]))=!keyB s:=by
 by_cases h1:s=[110,111,116]
 ·subst h1;rfl
 ·by_cases h2:s=[105,110]
  ·subst h2;rfl
  ·rw[decide_eq_false h1,decide_eq_false h2,Bool.or_false,Bool.or_false,kwsB,keyB,decide_eq_false h1,decide_eq_false h2]
   simp only[Bool.false_or,Bool.or_assoc]
def spcB(c:Int):Bool:=(decide (c=32)||(decide (c=9)||(decide (c=10)||(decide (c=59)||(decide (c=38)||(decide (c=124)||(decide (c=40)||(decide (c=41)||(decide (c=123)||(decide (c=125)||(decide (c=60)||(decide (c=62)||(decide (c=61)||(decide (c=94)||(decide (c=96)||(decide (c=36)||decide (c=39)))))))))))))))))
theorem cond_self(a b:Bool):(bif a then a else b)=(a||b):=by cases a<;>rfl
theorem cond_ft(a:Bool):(bif a then some false else some true)=some (!a):=by cases a<;>rfl
theorem F238_is(c:Int):F238 c=some (!spcB c):=by
 rw[F238]
 simp only[cond_self]
 rw[cond_ft]
 rfl
theorem spc_idx(x:UInt8):L_IndexByte [32,9,10,59,38,124,40,41,123,125,60,62,61,94,96,36,39] (B x)=some (Lib.indexByte [32,9,10,59,38,124,40,41,123,125,60,62,61,94,96,36,39] x)∧decide (0≤Lib.indexByte [32,9,10,59,38,124,40,41,123,125,60,62,61,94,96,36,39] x)=spcB (B x):=by
 refine⟨?_,?_⟩
 ·rw[L_IndexByte,B,Int.toNat_natCast]
  congr 2
  exact UInt8.ofNat_toNat
 ·rw[←Lib.contains_iff_indexByte,spcB]
  simp only[List.contains_cons,List.contains_nil,Bool.or_false]
  have e:∀y:UInt8,(x==y)=decide (B x=B y):=fun y=>by
   rw[B,B,byte_eq];by_cases h:x=y<;>simp[h]
  simp only[e]
  rfl
theorem hsh_idx(x:UInt8):L_IndexByte [35,33,64] (B x)=some (Lib.indexByte [35,33,64] x)∧decide (0≤Lib.indexByte [35,33,64] x)=(decide (B x=35)||(decide (B x=33)||decide (B x=64))):=by
 refine⟨?_,?_⟩
 ·rw[L_IndexByte,B,Int.toNat_natCast]
  congr 2
  exact UInt8.ofNat_toNat
 ·rw[←Lib.contains_iff_indexByte]
  simp only[List.contains_cons,List.contains_nil,Bool.or_false]
  have e:∀y:UInt8,(x==y)=decide (B x=B y):=fun y=>by
   rw[B,B,byte_eq];by_cases h:x=y<;>simp[h]
  simp only[e]
  rfl
def mkB(q:UInt8):Bool:=decide (B q=48)||decide (B q=49)
def okQ(p:UInt8×UInt8):Bool:=mkB p.1&&!(decide (B p.1=48)&&spcB (B p.2))
def headB:Str→Str→Bool
 | a::_,c::_=>decide (B a=49)||!(decide (B c=35)||(decide (B c=33)||decide (B c=64)))
 | _,_=>true
def textB(t q:Str):Bool:=decide (q.length=t.length)&&((q.zip t).all okQ&&headB q t)
theorem loop263(w:Word)(hl:w.quoted_.length≤1000000):∀n j:Nat,j≤w.quoted_.length→w.quoted_.length-j<n→iter (F263_b1 w) n (j:Int)=some ((w.quoted_.drop j).all mkB)
 | 0,j,_,h=>by omega
 | n+1,j,hj,hn=>by
   show F263_b1 w (iter (F263_b1 w) n) (j:Int)=_
   rw[F263_b1]
   by_cases hc:j<w.quoted_.length
   ·rw[decide_eq_true (by omega),cond_t,sidx_at hc,Option.bind_some,drop_at hc,List.all_cons]
    have e:(!decide ((w.quoted_[j].toNat:Int)=48)&&!decide ((w.quoted_[j].toNat:Int)=49))=!mkB w.quoted_[j]:=by rw[mkB,Bool.not_or];rfl
    rw[e]
    cases mkB w.quoted_[j]with
    | true=>
      rw[Bool.not_true,cond_f,wrap64 (by omega) (by omega),Bool.true_and]
      exact loop263 w hl n (j+1) (by omega) (by omega)
    | false=>rfl
   ·rw[decide_eq_false (by omega),cond_f,List.drop_eq_nil_of_le (by omega)]
    rfl
theorem F263_is(w:Word)(hl:w.quoted_.length≤1000000):F263 w=some (decide (w.text_.length=w.quoted_.length)&&w.quoted_.all mkB):=by
 rw[F263]
 by_cases h:w.text_.length=w.quoted_.length
 ·rw[decide_eq_true (p:=((w.text_.length:Int)=(w.quoted_.length:Int))) (by omega),decide_eq_true h,Bool.not_true,cond_f,Bool.true_and]
  have:=loop263 w hl BIG 0 (Nat.zero_le _) (by unfold BIG;omega)
  rw[List.drop_zero]at this
  exact this
 ·rw[decide_eq_false (p:=((w.text_.length:Int)=(w.quoted_.length:Int))) (by omega),decide_eq_false h]
  rfl
theorem loop278(w:Word)(hl:w.quoted_.length≤1000000)(he:w.text_.length=w.quoted_.length):∀n j:Nat,j+1≤w.quoted_.length→w.quoted_.length-(j+1)<n→iter (F278_b1 w) n ((j+1:Nat):Int)=some (((w.quoted_.drop (j+1)).zip (w.text_.drop (j+1))).all fun p=>!(decide (B p.1=48)&&spcB (B p.2)))
 | 0,j,_,h=>by omega
 | n+1,j,hj,hn=>by
   show F278_b1 w (iter (F278_b1 w) n) ((j+1:Nat):Int)=_
   rw[F278_b1]
   by_cases hc:j+1<w.quoted_.length
   ·have hc2:j+1<w.text_.length:=by omega
    obtain⟨s1,s2⟩:=spc_idx w.text_[j+1]
    rw[decide_eq_true (p:=(((j+1:Nat):Int)<(w.text_.length:Int))) (by omega),cond_t,sidx_at hc,Option.bind_some,sidx_at hc2,drop_at hc,drop_at hc2,List.zip_cons_cons,List.all_cons]
    have e0:decide (((j+1:Nat):Int)=0)=false:=decide_eq_false (by omega)
    rw[e0]
    by_cases h48:(w.quoted_[j+1].toNat:Int)=48
    ·have h48':B w.quoted_[j+1]=48:=h48
     rw[decide_eq_true h48,decide_eq_true h48',guardO_t1,Option.bind_some,guardO_t1]
     rw[show((w.text_[j+1].toNat:Int))=B w.text_[j+1] from rfl,s1,Option.bind_some,s2]
     cases spcB (B w.text_[j+1])with
     | true=>rfl
     | false=>
       show(bif false then some false else iter (F278_b1 w) n (IntKind.wrap .i64 (((j+1:Nat):Int)+1)))=_
       rw[cond_f,wrap64 (by omega) (by omega)]
       exact loop278 w hl he n (j+1) (by omega) (by omega)
    ·have h48':¬ B w.quoted_[j+1]=48:=h48
     rw[decide_eq_false h48,decide_eq_false h48']
     show(bif false then some false else iter (F278_b1 w) n (IntKind.wrap .i64 (((j+1:Nat):Int)+1)))=_
     rw[cond_f,wrap64 (by omega) (by omega)]
     exact loop278 w hl he n (j+1) (by omega) (by omega)
   ·rw[decide_eq_false (p:=(((j+1:Nat):Int)<(w.text_.length:Int))) (by omega),cond_f,show List.drop _ w.quoted_=[] from List.drop_eq_nil_of_le (by omega)]
    rfl
theorem all_and{α:Type}(p q:α→Bool):∀l:List α,l.all (fun x=>p x&&q x)=(l.all p&&l.all q)
 | []=>rfl
 | x::r=>by
   rw[List.all_cons,List.all_cons,List.all_cons,all_and p q r]
   cases p x<;>cases q x<;>cases r.all p<;>rfl
theorem all_zip(p:UInt8→Bool):∀q t:Str,q.length=t.length→(q.zip t).all (fun x=>p x.1)=q.all p
 | [],[],_=>rfl
 | a::q,c::t,h=>by
   rw[List.zip_cons_cons,List.all_cons,List.all_cons,all_zip p q t (by simpa using h)]
theorem mk_49{a:UInt8}(h:mkB a=true):decide (B a=49)=!decide (B a=48):=by
 simp only[mkB,Bool.or_eq_true,decide_eq_true_eq]at h
 rcases h with h|h
 ·rw[decide_eq_true h,decide_eq_false (by omega)];rfl
 ·rw[decide_eq_true h,decide_eq_false (by omega)];rfl
theorem F278_is(w:Word)(hl:w.quoted_.length≤1000000):F278 w=some (textB w.text_ w.quoted_):=by
 rw[F278,F263_is w hl,Option.bind_some,textB]
 by_cases he:w.text_.length=w.quoted_.length
 ·rw[decide_eq_true he,decide_eq_true he.symm,Bool.true_and,Bool.true_and]
  have hs:((w.quoted_.zip w.text_).all okQ)=(w.quoted_.all mkB&&(w.quoted_.zip w.text_).all fun p=>!(decide (B p.1=48)&&spcB (B p.2))):=by
   rw[←all_zip mkB w.quoted_ w.text_ he.symm,←all_and]
   rfl
  rw[hs]
  cases hm:w.quoted_.all mkB with
  | false=>rfl
  | true=>
    rw[Bool.not_true,cond_f,Bool.true_and]
    show F278_b1 w (iter (F278_b1 w) 1180591620717411303423) 0=_
    rw[F278_b1]
    cases hq:w.quoted_ with
    | nil=>
      rw[hq]at he
      have:w.text_=[]:=List.eq_nil_of_length_eq_zero he
      rw[this]
      rfl
    | cons a q=>
      cases ht:w.text_ with
      | nil=>rw[hq,ht]at he;cases he
      | cons c t=>
        have hlq:0+1≤w.quoted_.length:=by rw[hq];simp
        have rest:=loop278 w hl he 1180591620717411303423 0 hlq (by omega)
        rw[hq,ht]at rest
        rw[hq,List.all_cons,Bool.and_eq_true]at hm
        have h49:=mk_49 hm.1
        obtain⟨s1,s2⟩:=spc_idx c
        obtain⟨g1,g2⟩:=hsh_idx c
        rw[show(sidx (a::q) 0)=some (B a) from rfl,show(sidx (c::t) 0)=some (B c) from rfl,Option.bind_some,List.zip_cons_cons,List.all_cons,headB,h49]
        rw[decide_eq_true (p:=((0:Int)<((c::t).length:Int))) (by simp),cond_t]
        have rest':iter (F278_b1 w) 1180591620717411303423 (IntKind.wrap .i64 (0+1))=some ((q.zip t).all fun p=>!(decide (B p.1=48)&&spcB (B p.2))):=rest
        rw[rest']
        by_cases h48:B a=48
        ·rw[decide_eq_true h48,guardO_t1,Option.bind_some,guardO_t1,s1,Option.bind_some,s2]
         cases hsp:spcB (B c)with
         | true=>rfl
         | false=>
           show(L_IndexByte [35,33,64] (B c)).bind _=_
           rw[g1,Option.bind_some]
           have:decide ((0:Int)=0)=true:=rfl
           rw[this,g2]
           cases(decide (B c=35)||(decide (B c=33)||decide (B c=64)))with
           | true=>cases((q.zip t).all fun p=>!(decide (B p.1=48)&&spcB (B p.2)))<;>rfl
           | false=>cases((q.zip t).all fun p=>!(decide (B p.1=48)&&spcB (B p.2)))<;>rfl
        ·rw[decide_eq_false h48]
         show some _=_
         cases((q.zip t).all fun p=>!(decide (B p.1=48)&&spcB (B p.2)))<;>rfl
 ·rw[decide_eq_false he,decide_eq_false (fun h=>he h.symm)]
  rfl
theorem loop214(w:Word)(hl:w.text_.length≤1000000)(he:w.text_.length=w.quoted_.length):∀n j:Nat,j≤w.quoted_.length→w.quoted_.length-j<n→iter (F214_b1 w) n (j:Int)=some (((w.quoted_.drop j).zip (w.text_.drop j)).all okQ&&headB w.quoted_ w.text_)
 | 0,j,_,h=>by omega
 | n+1,j,hj,hn=>by
   show F214_b1 w (iter (F214_b1 w) n) (j:Int)=_
   rw[F214_b1]
   by_cases hc:j<w.quoted_.length
   ·have hc2:j<w.text_.length:=by omega
    rw[decide_eq_true (p:=((j:Int)<(w.text_.length:Int))) (by omega),cond_t,sidx_at hc,Option.bind_some,sidx_at hc2,drop_at hc,drop_at hc2,List.zip_cons_cons,List.all_cons]
    have e:(!decide ((w.quoted_[j].toNat:Int)=48)&&!decide ((w.quoted_[j].toNat:Int)=49))=!mkB w.quoted_[j]:=by rw[mkB,Bool.not_or];rfl
    rw[e,okQ]
    cases hm:mkB w.quoted_[j]with
    | false=>rfl
    | true=>
      by_cases h48:(w.quoted_[j].toNat:Int)=48
      ·have h48':B w.quoted_[j]=48:=h48
       rw[decide_eq_true h48,decide_eq_true h48']
       show(F238 _).bind _=_
       rw[F238_is,Option.bind_some,show((w.text_[j].toNat:Int))=B w.text_[j] from rfl]
       cases spcB (B w.text_[j])with
       | true=>rfl
       | false=>
         show(bif false then some false else iter (F214_b1 w) n (IntKind.wrap .i64 ((j:Int)+1)))=_
         rw[cond_f,wrap64 (by omega) (by omega)]
         exact loop214 w hl he n (j+1) (by omega) (by omega)
      ·have h48':¬ B w.quoted_[j]=48:=h48
       rw[decide_eq_false h48,decide_eq_false h48']
       show(bif false then some false else iter (F214_b1 w) n (IntKind.wrap .i64 ((j:Int)+1)))=_
       rw[cond_f,wrap64 (by omega) (by omega)]
       exact loop214 w hl he n (j+1) (by omega) (by omega)
   ·rw[decide_eq_false (p:=((j:Int)<(w.text_.length:Int))) (by omega),cond_f,show List.drop _ w.quoted_=[] from List.drop_eq_nil_of_le (by omega),List.zip_nil_left,List.all_nil,Bool.true_and]
    cases hq:w.quoted_ with
    | nil=>
      rw[hq]at he
      rw[List.eq_nil_of_length_eq_zero he]
      rfl
    | cons a q=>
      cases ht:w.text_ with
      | nil=>rw[hq,ht]at he;cases he
      | cons c t=>
        rw[headB,show(sidx (a::q) 0)=some (B a) from rfl,show(sidx (c::t) 0)=some (B c) from rfl,decide_eq_false (p:=(c::t=([]:Str))) (by simp)]
        show(guardO _ (some (B c))).bind _=_
        cases decide (B a=49)with
        | true=>rfl
        | false=>
          show some _=_
          rw[Bool.or_false,Bool.false_or,Bool.false_or,Bool.not_or,Bool.not_or,Bool.and_assoc]
theorem F214_is(w:Word)(hl:w.text_.length≤1000000):F214 w=some (textB w.text_ w.quoted_):=by
 rw[F214,textB]
 by_cases he:w.text_.length=w.quoted_.length
 ·rw[decide_eq_true (p:=((w.quoted_.length:Int)=(w.text_.length:Int))) (by omega),decide_eq_true he.symm,Bool.not_true,cond_f,Bool.true_and]
  have:=loop214 w hl he BIG 0 (Nat.zero_le _) (by unfold BIG;omega)
  rw[List.drop_zero,List.drop_zero]at this
  exact this
 ·rw[decide_eq_false (p:=((w.quoted_.length:Int)=(w.text_.length:Int))) (by omega),decide_eq_false (fun h=>he h.symm)]
  rfl
end Go.Abs.U48
namespace Go.Abs.U48
open Go Go.Proofs
def lev(k:Int):Int:=
 bif (decide (k=1)||(decide (k=2)||(decide (k=7)||(decide (k=8)||(decide (k=9)||(decide (k=10)||(decide (k=11)||(decide (k=12)||(decide (k=13)||(decide (k=15)||(decide (k=16)||decide (k=17))))))))))))then 1
 else bif decide (k=3)then 2 else bif (decide (k=5)||decide (k=6))then 3 else bif decide (k=14)then 4 else 0
theorem F100_is(k:Int):F100 k=some (lev k):=by
 rw[F100,lev]
 simp only[cond_self]
 generalize (decide (k=1)||(decide (k=2)||(decide (k=7)||(decide (k=8)||(decide (k=9)||(decide (k=10)||(decide (k=11)||(decide (k=12)||(decide (k=13)||(decide (k=15)||(decide (k=16)||decide (k=17))))))))))))=a
 generalize decide (k=3)=b
 generalize (decide (k=5)||decide (k=6))=c
 generalize decide (k=14)=d
 cases a<;>cases b<;>cases c<;>cases d<;>rfl
def lvl(most k:Int):Bool:=!(decide (lev k<1)||decide (most<lev k))
def shapeB(k:Int)(nm:Str)(w r c:Nat):Bool:=
 bif (((((decide (k=2)||decide (k=10))||decide (k=15))&&!nameB nm)||(!((decide (k=2)||decide (k=10))||decide (k=15))&&!decide (nm=[])))||((decide (0<r)&&!decide (k=1))&&!decide (k=12)))then false
 else bif decide (k=1)then(decide (0<w+r)&&decide (c=0))
 else bif decide (k=2)then(decide (w=1)&&decide (c≤1))
 else bif (decide (k=7)||(decide (k=13)||(decide (k=9)||decide (k=14))))then(decide (w=0)&&decide (c=1))
 else bif (decide (k=8)||(decide (k=11)||(decide (k=5)||decide (k=6))))then(decide (w=0)&&decide (c=2))
 else bif decide (k=10)then decide (c=1)
 else bif (decide (k=12)||decide (k=15))then decide (w=0)
 else bif decide (k=3)then(decide (w=0)&&decide (2≤c))
 else bif decide (k=16)then(decide (0<w)&&decide (c=0))
 else(decide (k=17)&&decide (w=1))
def noneB(w:Word):Bool:=(((decide (w.kind_=0)&&decide (w.text_=[]))&&decide (w.quoted_=[]))&&decide (w.words_.length+w.cmd_.length=0))
def lastB(t:Str):Bool:=decide (t.getLast?=some 10)
def hereB(fd:Int)(w:Word):Bool:=
 ((((decide (fd=0)&&decide (w.kind_=1))&&decide (w.quoted_=List.replicate w.text_.length 48))&&decide (w.words_.length+w.cmd_.length=0))&&(decide (w.text_=[])||lastB w.text_))
def startsB(w:Word):Bool:=(decide (w.kind_=1)&&keyB w.text_)&&!markedB w.quoted_
def headKw:List Word→Bool
 | []=>false
 | w::_=>bif decide (w.kind_=4)then(match w.words_ with|[]=>false|u::_=>startsB u)else startsB w
mutual
def rW:Word→Bool
 | ⟨k,t,q,ws,cs⟩=>
   bif decide (k=1)then textB t q&&decide (ws.length+cs.length=0)
   else bif (decide (k=2)||decide (k=3))then(nameB t&&decide (q=[]))&&decide (ws.length+cs.length=0)
   else bif decide (k=7)then(((nameB t&&decide (q=[]))&&decide (0<ws.length))&&decide (cs.length=0))&&rWs ws
   else bif decide (k=5)then((decide (t=[])&&decide (q=[]))&&decide (cs.length=0))&&rWs ws
   else bif decide (k=6)then((decide (t=[])&&decide (q=[]))&&decide (ws.length=0))&&rUp cs 4
   else bif decide (k=4)then(ws.all fun x=>!decide (x.kind_=4))&&((((decide (t=[])&&decide (q=[]))&&decide (1<ws.length))&&decide (cs.length=0))&&rWs ws)
   else false
def rWs:List Word→Bool
 | []=>true
 | w::r=>rW w&&rWs r
def rC:Cmd→Bool
 | ⟨k,_,nm,ws,rs,ks⟩=>((shapeB k nm ws.length rs.length ks.length&&rWs ws)&&rRs rs) &&
   (bif decide (k=1)then(decide (ws.length=0)||!headKw ws)
   else bif (decide (k=8)||decide (k=11))then rIf ks
   else bif (decide (k=12)||decide (k=15))then rUp ks 4
   else bif (decide (k=5)||decide (k=6))then rAnd ks
   else bif decide (k=14)then rUp ks 3
   else bif decide (k=17)then rCases ks
   else rUp ks 1)
def rUp:List Cmd→Int→Bool
 | [],_=>true
 | c::r,m=>(lvl m c.kind_&&rC c)&&rUp r m
def rIf:List Cmd→Bool
 | []=>false
 | c::r=>((decide (c.kind_=12)&&decide (c.redirs_.length=0))&&rC c)&&rUp r 1
def rAnd:List Cmd→Bool
 | []=>true
 | c::r=>(lvl 3 c.kind_&&rC c)&&rUp r 2
def rCase:Cmd→Bool
 | ⟨k,_,nm,ws,rs,ks⟩=>((((decide (k=18)&&decide (nm=[]))&&decide (rs.length=0))&&!decide (ws.length=0))&&rWs ws)&&rUp ks 4
def rCases:List Cmd→Bool
 | []=>true
 | c::r=>rCase c&&rCases r
def rR:Redir→Bool
 | ⟨k,fd,fr,w,raw⟩=>
   bif (((((decide (fd<0)||decide (64≤fd))||decide (fr<0))||decide (64≤fr))||(!decide (k=5)&&!decide (fr=0)))||(!decide (k=4)&&raw))then false
   else bif (decide (k=1)||(decide (k=2)||decide (k=3)))then rW w
   else bif (decide (k=5)||decide (k=6))then noneB w
   else bif decide (k=4)then hereB fd w
   else false
def rRs:List Redir→Bool
 | []=>true
 | r::s=>rR r&&rRs s
end
theorem rWs_all:∀l,rWs l=l.all rW
 | []=>by rw[rWs];rfl
 | x::r=>by rw[rWs,rWs_all r];rfl
theorem rRs_all:∀l,rRs l=l.all rR
 | []=>by rw[rRs];rfl
 | x::r=>by rw[rRs,rRs_all r];rfl
theorem rCases_all:∀l,rCases l=l.all rCase
 | []=>by rw[rCases];rfl
 | x::r=>by rw[rCases,rCases_all r];rfl
theorem rUp_all(m:Int):∀l,rUp l m=l.all fun c=>lvl m c.kind_&&rC c
 | []=>by rw[rUp];rfl
 | x::r=>by rw[rUp,rUp_all m r];rfl
theorem rC_eq(c:Cmd):rC c=(((shapeB c.kind_ c.name_ c.words_.length c.redirs_.length c.kids_.length&&c.words_.all rW)&&c.redirs_.all rR) &&
 (bif decide (c.kind_=1)then(decide (c.words_.length=0)||!headKw c.words_)
 else bif (decide (c.kind_=8)||decide (c.kind_=11))then rIf c.kids_
 else bif (decide (c.kind_=12)||decide (c.kind_=15))then c.kids_.all fun c=>lvl 4 c.kind_&&rC c
 else bif (decide (c.kind_=5)||decide (c.kind_=6))then rAnd c.kids_
 else bif decide (c.kind_=14)then c.kids_.all fun c=>lvl 3 c.kind_&&rC c
 else bif decide (c.kind_=17)then c.kids_.all rCase
 else c.kids_.all fun c=>lvl 1 c.kind_&&rC c)):=by
 obtain⟨_,_,_,ws,rs,ks⟩:=c
 rw[rC,rWs_all,rRs_all,rCases_all,rUp_all,rUp_all,rUp_all]
theorem rW_eq(w:Word):rW w=
 (bif decide (w.kind_=1)then textB w.text_ w.quoted_&&decide (w.words_.length+w.cmd_.length=0)
 else bif (decide (w.kind_=2)||decide (w.kind_=3))then(nameB w.text_&&decide (w.quoted_=[]))&&decide (w.words_.length+w.cmd_.length=0)
 else bif decide (w.kind_=7)then(((nameB w.text_&&decide (w.quoted_=[]))&&decide (0<w.words_.length))&&decide (w.cmd_.length=0))&&w.words_.all rW
 else bif decide (w.kind_=5)then((decide (w.text_=[])&&decide (w.quoted_=[]))&&decide (w.cmd_.length=0))&&w.words_.all rW
 else bif decide (w.kind_=6)then((decide (w.text_=[])&&decide (w.quoted_=[]))&&decide (w.words_.length=0))&&w.cmd_.all fun c=>lvl 4 c.kind_&&rC c
 else bif decide (w.kind_=4)then(w.words_.all fun x=>!decide (x.kind_=4))&&((((decide (w.text_=[])&&decide (w.quoted_=[]))&&decide (1<w.words_.length))&&decide (w.cmd_.length=0))&&w.words_.all rW)
 else false):=by
 obtain⟨_,_,_,ws,cs⟩:=w
 rw[rW,rWs_all,rUp_all]
theorem rCase_eq(c:Cmd):rCase c=(((((decide (c.kind_=18)&&decide (c.name_=[]))&&decide (c.redirs_.length=0))&&!decide (c.words_.length=0))&&c.words_.all rW)&&c.kids_.all fun c=>lvl 4 c.kind_&&rC c):=by
 obtain⟨_,_,_,ws,rs,ks⟩:=c
 rw[rCase,rWs_all,rUp_all]
theorem rR_eq(r:Redir):rR r=
 (bif (((((decide (r.fd_<0)||decide (64≤r.fd_))||decide (r.from_<0))||decide (64≤r.from_))||(!decide (r.kind_=5)&&!decide (r.from_=0)))||(!decide (r.kind_=4)&&r.raw_))then false
 else bif (decide (r.kind_=1)||(decide (r.kind_=2)||decide (r.kind_=3)))then rW r.word_
 else bif (decide (r.kind_=5)||decide (r.kind_=6))then noneB r.word_
 else bif decide (r.kind_=4)then hereB r.fd_ r.word_
 else false):=by
 obtain⟨_,_,_,w,_⟩:=r
 rw[rR]
theorem int_len(n m:Nat):decide (IntKind.wrap .i64 ((n:Int)+(m:Int))=0)=decide (n+m=0)∨1000000<n+m:=by
 by_cases h:n+m≤1000000
 ·left
  rw[wrap64 (by omega) (by omega)]
  exact decide_eq_decide.2 (by omega)
 ·right;omega
theorem sum0{n m:Nat}(h:n+m≤1000000):decide (IntKind.wrap .i64 ((n:Int)+(m:Int))=0)=decide (n+m=0):=by
 rcases int_len n m with h'|h'
 ·exact h'
 ·omega
theorem dN(n k:Nat):decide ((n:Int)=(k:Int))=decide (n=k):=decide_eq_decide.2 (by omega)
theorem guardO_and{b:Bool}{x:Option Bool}{v:Bool}(h:b=true→x=some v):(guardO b x).bind (fun r=>some (b&&r))=some (b&&v):=by
 cases b with
 | true=>rw[guardO_t1,h rfl];rfl
 | false=>rfl
theorem all146(w184:Word→Option Bool)(p:Word→Bool)(l:List Word)(hl:l.length≤1000000)(h:∀x∈l,w184 x=some (p x)):F146 w184 l=some (l.all p):=by
 rw[F146,iter_range (body:=F146_b1 l w184) l (fun u _ k=>(w184 u).bind fun r=>bif !r then some false else k) (some true) (fun _ _=>rfl) (by omega),loop_all p w184 true l 0 h,Bool.and_true]
theorem up65(w101:Cmd→Option Bool)(l:List Cmd)(most:Int)(hl:l.length≤1000000)(h:∀x∈l,w101 x=some (rC x)):F65 w101 l most=some (l.all fun c=>lvl most c.kind_&&rC c):=by
 rw[F65,iter_range (body:=F65_b1 l most w101) l (fun u _ k=>(F100 u.kind_).bind fun r12=>(guardO (!(decide (r12<1)||decide (most<r12))) (w101 u)).bind fun r15=>bif ((decide (r12<1)||decide (most<r12))||!r15)then some false else k) (some true) (fun _ _=>rfl) (by omega)]
 have:∀ (r:List Cmd) (i:Int),(∀x∈r,w101 x=some (rC x))→loopR (fun(u:Cmd) _ k=>(F100 u.kind_).bind fun r12=>(guardO (!(decide (r12<1)||decide (most<r12))) (w101 u)).bind fun r15=>bif ((decide (r12<1)||decide (most<r12))||!r15)then some false else k) (some true) r i=some (r.all fun c=>lvl most c.kind_&&rC c):=by
  intro r
  induction r with
  | nil=>intro i _;rfl
  | cons u r ih=>
    intro i hh
    rw[loopR,F100_is,Option.bind_some,hh u (by simp),List.all_cons,lvl]
    cases(decide (lev u.kind_<1)||decide (most<lev u.kind_))with
    | true=>rfl
    | false=>
      rw[Bool.not_false,guardO_t1,Option.bind_some,Bool.true_and,Bool.false_or]
      cases rC u with
      | true=>rw[Bool.not_true,cond_f,ih (i+1) (fun y hy=>hh y (by simp[hy])),Bool.true_and]
      | false=>rfl
 exact this l 0 h
theorem F145_is(c:Cmd)(hn:c.name_.length≤1000000)(hw:c.words_.length+c.redirs_.length≤1000000):F145 c=some (shapeB c.kind_ c.name_ c.words_.length c.redirs_.length c.kids_.length):=by
 rw[F145,shapeB]
 have e1:decide ((0:Int)<(c.redirs_.length:Int))=decide (0<c.redirs_.length):=decide_eq_decide.2 (by omega)
 have e2:decide (0<IntKind.wrap .i64 ((c.words_.length:Int)+(c.redirs_.length:Int)))=decide (0<c.words_.length+c.redirs_.length):=by
  rw[wrap64 (by omega) (by omega)]
  exact decide_eq_decide.2 (by omega)
 have e3:∀n k:Nat,decide ((n:Int)=(k:Int))=decide (n=k):=dN
 have k0:=e3 c.kids_.length 0
 have k1:=e3 c.kids_.length 1
 have k2:=e3 c.kids_.length 2
 have w0:=e3 c.words_.length 0
 have w1:=e3 c.words_.length 1
 have k1':decide ((c.kids_.length:Int)≤1)=decide (c.kids_.length≤1):=decide_eq_decide.2 (by omega)
 have k2':decide (2≤(c.kids_.length:Int))=decide (2≤c.kids_.length):=decide_eq_decide.2 (by omega)
 have w0':decide (0<(c.words_.length:Int))=decide (0<c.words_.length):=decide_eq_decide.2 (by omega)
 simp only[Int.ofNat_zero,Int.ofNat_one,show((0:Nat):Int)=0 from rfl,show((1:Nat):Int)=1 from rfl,show((2:Nat):Int)=2 from rfl]at k0 k1 k2 w0 w1
 simp only[cond_self,e1,e2,k0,k1,k2,w0,w1,k1',k2',w0']
 have hg:∀b:Bool,guardO b (F172 c.name_)=some (b&&nameB c.name_):=fun b=>by
  cases b
  ·rfl
  ·rw[guardO_t1,F172_is _ (by omega),Bool.true_and]
 rw[hg,Option.bind_some]
 have hb:∀a n:Bool,(a&&!(a&&n))=(a&&!n):=fun a n=>by cases a<;>rfl
 rw[hb]
 generalize (((decide (c.kind_=2)||decide (c.kind_=10))||decide (c.kind_=15))&&!nameB c.name_||!((decide (c.kind_=2)||decide (c.kind_=10))||decide (c.kind_=15))&&!decide (c.name_=[])||decide (0<c.redirs_.length)&&!decide (c.kind_=1)&&!decide (c.kind_=12))=x0
 generalize decide (c.kind_=1)=x1
 generalize (decide (c.kind_=7)||(decide (c.kind_=13)||(decide (c.kind_=9)||decide (c.kind_=14))))=x3
 generalize (decide (c.kind_=8)||(decide (c.kind_=11)||(decide (c.kind_=5)||decide (c.kind_=6))))=x4
 generalize (decide (c.kind_=12)||decide (c.kind_=15))=x6
 generalize decide (c.kind_=2)=x2
 generalize decide (c.kind_=10)=x5
 generalize decide (c.kind_=3)=x7
 generalize decide (c.kind_=16)=x8
 cases x0<;>cases x1<;>cases x2<;>cases x3<;>cases x4<;>cases x5<;>cases x6<;>cases x7<;>cases x8<;>rfl
theorem loop_all2{α:Type}(p:α→Bool)(w:α→Option Bool){fin:Option Bool}{b:Bool}(hf:fin=some b)(l:List α)(i:Int)(h:∀x∈l,w x=some (p x)):
 loopR (fun u _ k=>(w u).bind fun r=>bif !r then some false else k) fin l i=some (l.all p&&b):=by
 rw[hf,loop_all p w b l i h]
theorem loop186(N:Nat)(hN:N≤1000000):∀n j:Nat,j≤N→N-j<n→iter (F186_b1 (N:Int)) n (List.replicate j (48:UInt8),(j:Int))=some (List.replicate N 48)
 | 0,j,_,h=>by omega
 | n+1,j,hj,hn=>by
   show F186_b1 (N:Int) (iter (F186_b1 (N:Int)) n) (List.replicate j (48:UInt8),(j:Int))=_
   rw[F186_b1]
   by_cases hc:j<N
   ·rw[decide_eq_true (by omega),cond_t,catO,if_pos (by simp;omega),Option.bind_some,wrap64 (by omega) (by omega)]
    have e:List.replicate j (48:UInt8)++[48]=List.replicate (j+1) 48:=List.replicate_succ'.symm
    rw[e]
    exact loop186 N hN n (j+1) (by omega) (by omega)
   ·rw[decide_eq_false (by omega),cond_f,show j=N by omega]
theorem F186_is(N:Nat)(hN:N≤1000000):F186 (N:Int)=some (List.replicate N 48):=by
 rw[F186]
 exact loop186 N hN BIG 0 (Nat.zero_le _) (by unfold BIG;omega)
theorem F185_is(w:Word)(h:w.words_.length+w.cmd_.length≤1000000):F185 w=some (noneB w):=by
 rw[F185,noneB,sum0 h]
theorem len0(t:Str):decide ((t.length:Int)=0)=decide (t=[]):=by
 cases t with
 | nil=>rfl
 | cons a t=>rw[decide_eq_false (by simp;omega),decide_eq_false (by simp)]
theorem last_at(t:Str)(h:t≠[])(hl:t.length≤1000000):∃c:UInt8,sidx t (IntKind.wrap .i64 ((t.length:Int)-1))=some (B c)∧lastB t=decide (B c=10):=by
 have hp:0<t.length:=by
  cases t with
  | nil=>exact absurd rfl h
  | cons a t=>simp
 rw[wrap64 (by omega) (by omega),show(t.length:Int)-1=((t.length-1:Nat):Int)by omega,sidx_at (by omega)]
 refine⟨_,rfl,?_⟩
 rw[lastB,List.getLast?_eq_getElem?,List.getElem?_eq_getElem (by omega),B]
 rw[show((10:Int))=(((10:UInt8).toNat:Nat):Int) from rfl,byte_eq]
 exact decide_eq_decide.2 (by simp)
theorem F147_is(w184:Word→Option Bool)(d:Redir)(hw:w184 d.word_=some (rW d.word_))(h1:d.word_.words_.length+d.word_.cmd_.length≤1000000)(h2:d.word_.text_.length≤1000000):F147 w184 d=some (rR d):=by
 rw[F147,rR_eq]
 simp only[cond_self]
 cases((((((decide (d.fd_<0)||decide (64≤d.fd_))||decide (d.from_<0))||decide (64≤d.from_))||(!decide (d.kind_=5)&&!decide (d.from_=0)))||(!decide (d.kind_=4)&&d.raw_)))with
 | true=>rfl
 | false=>
   rw[cond_f,cond_f]
   cases(decide (d.kind_=1)||(decide (d.kind_=2)||decide (d.kind_=3)))with
   | true=>rw[cond_t,cond_t,hw];rfl
   | false=>
     rw[cond_f,cond_f]
     cases(decide (d.kind_=5)||decide (d.kind_=6))with
     | true=>rw[cond_t,cond_t,F185_is _ h1];rfl
     | false=>
       rw[cond_f,cond_f]
       cases decide (d.kind_=4)with
       | false=>rfl
       | true=>
         rw[cond_t,cond_t,hereB,sum0 h1,len0]
         cases(decide (d.fd_=0)&&decide (d.word_.kind_=1))with
         | false=>rfl
         | true=>
           rw[guardO_t1,F186_is _ h2,Option.bind_some,Bool.true_and]
           cases decide (d.word_.quoted_=List.replicate d.word_.text_.length 48)with
           | false=>rfl
           | true=>
             rw[Bool.true_and]
             cases decide (d.word_.words_.length+d.word_.cmd_.length=0)with
             | false=>rfl
             | true=>
               rw[Bool.true_and]
               by_cases h0:d.word_.text_=[]
               ·rw[h0];rfl
               ·rw[decide_eq_false h0,Bool.not_false,guardO_t1]
                obtain⟨c,e1,e2⟩:=last_at d.word_.text_ h0 h2
                rw[e1,Option.bind_some,e2]
theorem F148_j1_is(k:Int)(t q:Str)(ws:List Word)(cs:List Cmd)(hq:q.length≤1000000):F148_j1 (k,t,q,ws,cs)=some ((decide (k=1)&&keyB t)&&!markedB q):=by
 rw[F148_j1]
 cases decide (k=1)with
 | false=>rfl
 | true=>
   rw[guardO_t1,F187_is,Option.bind_some,Bool.true_and]
   cases keyB t with
   | false=>rfl
   | true=>rw[guardO_t1,F171_is _ (by omega),Option.bind_some]
theorem F148_is(w:Word)(r:List Word)(hq:w.quoted_.length≤1000000)(h:w.kind_=4→∃u s,w.words_=u::s∧u.quoted_.length≤1000000):F148 w=some (headKw (w::r)):=by
 rw[F148,headKw]
 by_cases h4:w.kind_=4
 ·obtain⟨u,s,e,hu⟩:=h h4
  rw[decide_eq_true h4,cond_t,cond_t,e,lidx_0,Option.bind_some,F148_j1_is _ _ _ _ _ hu]
  rfl
 ·rw[decide_eq_false h4,cond_f,cond_f,F148_j1_is _ _ _ _ _ hq]
  rfl
theorem F150_is(w101:Cmd→Option Bool)(w184:Word→Option Bool)(l:List Cmd)(hl:l.length≤1000000)(h:∀c∈l,c.words_.length≤1000000∧c.kids_.length≤1000000∧(∀x∈c.words_,w184 x=some (rW x))∧∀x∈c.kids_,w101 x=some (rC x)):F150 w101 w184 l=some (l.all rCase):=by
 rw[F150,iter_range (body:=F150_b1 l w184 w101) l (fun u8 _ k=>(guardO (!(((!decide (u8.kind_=18)||!decide (u8.name_=[]))||decide (0<(u8.redirs_.length:Int)))||decide ((u8.words_.length:Int)=0))) (F146 w184 u8.words_)).bind fun r11=>
  (guardO (!((((!decide (u8.kind_=18)||!decide (u8.name_=[]))||decide (0<(u8.redirs_.length:Int)))||decide ((u8.words_.length:Int)=0))||!r11)) (F30 w101 u8.kids_)).bind fun r14=>
  (bif (((((!decide (u8.kind_=18)||!decide (u8.name_=[]))||decide (0<(u8.redirs_.length:Int)))||decide ((u8.words_.length:Int)=0))||!r11)||!r14)then some false else k)) (some true) (fun _ _=>rfl) (by omega)]
 have:∀ (r:List Cmd) (i:Int),(∀c∈r,c.words_.length≤1000000∧c.kids_.length≤1000000∧(∀x∈c.words_,w184 x=some (rW x))∧∀x∈c.kids_,w101 x=some (rC x))→
  loopR (fun(u8:Cmd) _ k=>(guardO (!(((!decide (u8.kind_=18)||!decide (u8.name_=[]))||decide (0<(u8.redirs_.length:Int)))||decide ((u8.words_.length:Int)=0))) (F146 w184 u8.words_)).bind fun r11=>
  (guardO (!((((!decide (u8.kind_=18)||!decide (u8.name_=[]))||decide (0<(u8.redirs_.length:Int)))||decide ((u8.words_.length:Int)=0))||!r11)) (F30 w101 u8.kids_)).bind fun r14=>
  (bif (((((!decide (u8.kind_=18)||!decide (u8.name_=[]))||decide (0<(u8.redirs_.length:Int)))||decide ((u8.words_.length:Int)=0))||!r11)||!r14)then some false else k)) (some true) r i=some (r.all rCase):=by
  intro r
  induction r with
  | nil=>intro i _;rfl
  | cons u r ih=>
    intro i hh
    obtain⟨g1,g2,g3,g4⟩:=hh u (by simp)
    have ih':=ih (i+1) (fun y hy=>hh y (by simp[hy]))
    rw[loopR,List.all_cons,ih',rCase_eq]
    have e1:decide (0<(u.redirs_.length:Int))=!decide (u.redirs_.length=0):=by
     by_cases h:u.redirs_.length=0
     ·rw[decide_eq_true h,decide_eq_false (by omega)];rfl
     ·rw[decide_eq_false h,decide_eq_true (by omega)];rfl
    have e2:decide ((u.words_.length:Int)=0)=decide (u.words_.length=0):=decide_eq_decide.2 (by omega)
    rw[e1,e2]
    have e3:(((!decide (u.kind_=18)||!decide (u.name_=[]))||!decide (u.redirs_.length=0))||decide (u.words_.length=0))=!(((decide (u.kind_=18)&&decide (u.name_=[]))&&decide (u.redirs_.length=0))&&!decide (u.words_.length=0)):=by
     simp only[Bool.not_and,Bool.not_not]
    rw[e3]
    cases(((decide (u.kind_=18)&&decide (u.name_=[]))&&decide (u.redirs_.length=0))&&!decide (u.words_.length=0))with
    | false=>rfl
    | true=>
      rw[Bool.not_true,Bool.not_false,guardO_t1,all146 w184 rW u.words_ g1 g3,Option.bind_some,Bool.false_or,Bool.true_and]
      cases u.words_.all rW with
      | false=>rfl
      | true=>
        rw[Bool.not_true,Bool.not_false,guardO_t1,F30,up65 w101 u.kids_ 4 g2 g4,Option.bind_some,Option.bind_some,Bool.false_or,Bool.true_and]
        cases(u.kids_.all fun c=>lvl 4 c.kind_&&rC c)with
        | false=>rfl
        | true=>rfl
 exact this l 0 h
theorem shape2{k:Int}{nm:Str}{w r c:Nat}(h:shapeB k nm w r c=true)(hk:k=8∨k=11∨k=5∨k=6):c=2:=by
 rcases hk with rfl|rfl|rfl|rfl<;>simp[shapeB]at h<;>exact h.2.2
theorem rW_join{w:Word}(h:rW w=true)(hk:w.kind_=4):1<w.words_.length:=by
 rw[rW_eq,hk]at h
 simp at h
 exact h.2.1.1.2
theorem two{α:Type}{l:List α}(h:l.length=2):∃a b,l=[a,b]:=by
 rcases l with _|⟨a,_|⟨b,_|⟨c,r⟩⟩⟩<;>simp at h
 exact⟨a,b,rfl⟩
theorem F101_is(w101:Cmd→Option Bool)(w184:Word→Option Bool)(c:Cmd)(hn:c.name_.length≤1000000)(l1:c.words_.length+c.redirs_.length≤1000000)(l2:c.kids_.length≤1000000)
 (hw:∀x∈c.words_,w184 x=some (rW x)) (hwq:∀x∈c.words_,x.quoted_.length≤1000000∧∀y∈x.words_,y.quoted_.length≤1000000)
 (hr:∀d∈c.redirs_,w184 d.word_=some (rW d.word_)∧d.word_.words_.length+d.word_.cmd_.length≤1000000∧d.word_.text_.length≤1000000)
 (hk:∀x∈c.kids_,w101 x=some (rC x))
 (hkk:∀k∈c.kids_,k.words_.length≤1000000∧k.kids_.length≤1000000∧(∀x∈k.words_,w184 x=some (rW x))∧∀x∈k.kids_,w101 x=some (rC x)):
 F101 w101 w184 c=some (rC c):=by
 rw[F101,F145_is c hn l1,Option.bind_some,rC_eq]
 cases hs:shapeB c.kind_ c.name_ c.words_.length c.redirs_.length c.kids_.length with
 | false=>rfl
 | true=>
   rw[guardO_t1,all146 w184 rW c.words_ (by omega) hw,Option.bind_some,Bool.true_and]
   cases hws:c.words_.all rW with
   | false=>rfl
   | true=>
     rw[Bool.not_true,Bool.or_self,cond_f,Bool.true_and]
     have F30_is:∀l:List Cmd,l.length≤1000000→(∀x∈l,w101 x=some (rC x))→F30 w101 l=some (l.all fun c=>lvl 4 c.kind_&&rC c):=fun l hl h=>by rw[F30,up65 w101 l 4 hl h];rfl
     rw[iter_range (body:=F101_b1 c w184 w101) c.redirs_ (fun u _ k=>(F147 w184 u).bind fun r=>bif !r then some false else k) _ (fun _ _=>rfl) (by omega)]
     refine loop_all2 rR (F147 w184) ?_ c.redirs_ 0 (fun d hd=>F147_is w184 d (hr d hd).1 (hr d hd).2.1 (hr d hd).2.2)
     simp only[cond_self]
     cases h1:decide (c.kind_=1)with
     | true=>
       rw[cond_t,cond_t]
       have e2:decide ((c.words_.length:Int)=0)=decide (c.words_.length=0):=decide_eq_decide.2 (by omega)
       rw[e2]
       cases hc:c.words_ with
       | nil=>rfl
       | cons u r=>
         rw[hc]at hws hwq
         rw[List.all_cons,Bool.and_eq_true]at hws
         have hu:=hwq u (by simp)
         have:decide ((u::r).length=0)=false:=decide_eq_false (by simp)
         rw[this,Bool.not_false,guardO_t1,lidx_0,Option.bind_some,guardO_t1,F148_is u r hu.1 (fun h4=>by
          have:=rW_join hws.1 h4
          cases hx:u.words_ with
          | nil=>rw[hx]at this;simp at this
          | cons y s=>exact⟨y,s,rfl,hu.2 y (by rw[hx];simp)⟩),Option.bind_some]
     | false=>
       rw[cond_f,cond_f]
       cases h8:(decide (c.kind_=8)||decide (c.kind_=11))with
       | true=>
         rw[cond_t,cond_t]
         simp only[Bool.or_eq_true,decide_eq_true_eq]at h8
         obtain⟨a,b,e⟩:=two (shape2 hs (h8.elim .inl fun h=>.inr (.inl h)))
         rw[e]at hk ⊢
         rw[lidx_0,Option.bind_some,F149,rIf,rUp_all,List.all_cons,List.all_nil,Bool.and_true]
         have e2:decide ((a.redirs_.length:Int)=0)=decide (a.redirs_.length=0):=decide_eq_decide.2 (by omega)
         rw[e2]
         cases(decide (a.kind_=12)&&decide (a.redirs_.length=0))with
         | false=>rfl
         | true=>
           rw[guardO_t1,hk a (by simp),Option.bind_some,Option.bind_some,Bool.true_and]
           cases rC a with
           | false=>rfl
           | true=>
             rw[guardO_t1,show lslice [a,b] 1 (([a,b]:List Cmd).length:Int)=some [b] from rfl,Option.bind_some,guardO_t1,up65 w101 [b] 1 (by simp) (fun x hx=>hk x (by rw[List.mem_singleton.1 hx];simp)),Option.bind_some,List.all_cons,List.all_nil,Bool.and_true]
       | false=>
         rw[cond_f,cond_f]
         cases h12:(decide (c.kind_=12)||decide (c.kind_=15))with
         | true=>rw[cond_t,cond_t,F30_is _ l2 hk];rfl
         | false=>
           rw[cond_f,cond_f]
           cases h5:(decide (c.kind_=5)||decide (c.kind_=6))with
           | true=>
             rw[cond_t,cond_t]
             simp only[Bool.or_eq_true,decide_eq_true_eq]at h5
             obtain⟨a,b,e⟩:=two (shape2 hs (h5.elim (fun h=>.inr (.inr (.inl h))) fun h=>.inr (.inr (.inr h))))
             rw[e]at hk ⊢
             rw[show lslice [a,b] 0 1=some [a] from rfl,Option.bind_some,up65 w101 [a] 3 (by simp) (fun x hx=>hk x (by rw[List.mem_singleton.1 hx];simp)),Option.bind_some,rAnd,rUp_all,List.all_cons,List.all_nil,Bool.and_true,List.all_cons,List.all_nil,Bool.and_true]
             cases(lvl 3 a.kind_&&rC a)with
             | false=>rfl
             | true=>
               rw[guardO_t1,show lslice [a,b] 1 (([a,b]:List Cmd).length:Int)=some [b] from rfl,Option.bind_some,guardO_t1,up65 w101 [b] 2 (by simp) (fun x hx=>hk x (by rw[List.mem_singleton.1 hx];simp)),Option.bind_some,List.all_cons,List.all_nil,Bool.and_true]
           | false=>
             rw[cond_f,cond_f]
             cases h14:decide (c.kind_=14)with
             | true=>rw[cond_t,cond_t,up65 w101 _ 3 l2 hk];rfl
             | false=>
               rw[cond_f,cond_f]
               cases h17:decide (c.kind_=17)with
               | true=>rw[cond_t,cond_t,F150_is w101 w184 c.kids_ l2 hkk];rfl
               | false=>rw[cond_f,cond_f,up65 w101 _ 1 l2 hk];rfl
theorem F184_is(w101:Cmd→Option Bool)(w184:Word→Option Bool)(w:Word)(ht:w.text_.length≤1000000)(hl:w.words_.length+w.cmd_.length≤1000000)(hw:∀x∈w.words_,w184 x=some (rW x))(hc:∀x∈w.cmd_,w101 x=some (rC x)):
 F184 w101 w184 w=some (rW w):=by
 rw[F184,rW_eq]
 simp only[cond_self,sum0 hl]
 have e0:decide ((w.words_.length:Int)=0)=decide (w.words_.length=0):=decide_eq_decide.2 (by omega)
 have e1:decide ((w.cmd_.length:Int)=0)=decide (w.cmd_.length=0):=decide_eq_decide.2 (by omega)
 have e2:decide ((0:Int)<(w.words_.length:Int))=decide (0<w.words_.length):=decide_eq_decide.2 (by omega)
 have e3:decide ((1:Int)<(w.words_.length:Int))=decide (1<w.words_.length):=decide_eq_decide.2 (by omega)
 have hall:=all146 w184 rW w.words_ (by omega) hw
 rw[e0,e1,e2]
 cases decide (w.kind_=1)with
 | true=>rw[cond_t,cond_t,F214_is w ht];rfl
 | false=>
   rw[cond_f,cond_f]
   cases(decide (w.kind_=2)||decide (w.kind_=3))with
   | true=>rw[cond_t,cond_t,F172_is _ (by omega)];rfl
   | false=>
     rw[cond_f,cond_f]
     cases decide (w.kind_=7)with
     | true=>
       rw[cond_t,cond_t,F172_is _ (by omega),Option.bind_some]
       exact guardO_and fun _=>hall
     | false=>
       rw[cond_f,cond_f]
       cases decide (w.kind_=5)with
       | true=>
         rw[cond_t,cond_t]
         exact guardO_and fun _=>hall
       | false=>
         rw[cond_f,cond_f]
         cases decide (w.kind_=6)with
         | true=>
           rw[cond_t,cond_t]
           exact guardO_and fun _=>by rw[F30,up65 w101 w.cmd_ 4 (by omega) hc];rfl
         | false=>
           rw[cond_f,cond_f]
           cases decide (w.kind_=4)with
           | false=>rfl
           | true=>
             rw[cond_t,cond_t]
             rw[iter_range (body:=F184_b1 w w184) w.words_ (fun u _ k=>(some (!decide (u.kind_=4))).bind fun r=>bif !r then some false else k) _ (fun again i=>by
              rw[F184_b1]
              congr 1
              congr 1
              funext u
              rw[Option.bind_some,Bool.not_not]) (by omega)]
             refine loop_all2 (fun x=>!decide (x.kind_=4)) (fun u=>some (!decide (u.kind_=4))) ?_ w.words_ 0 (fun _ _=>rfl)
             rw[e1,e3]
             exact guardO_and fun _=>hall
theorem sm_mem:∀ {l:List Word} {w:Word},smWs l→w∈l→smW w
 | x::r,w,h,hm=>by
   rw[smWs]at h
   rcases List.mem_cons.1 hm with rfl|hm
   ·exact h.1
   ·exact sm_mem h.2 hm
theorem smC_mem:∀ {l:List Cmd} {w:Cmd},smCs l→w∈l→smC w
 | x::r,w,h,hm=>by
   rw[smCs]at h
   rcases List.mem_cons.1 hm with rfl|hm
   ·exact h.1
   ·exact smC_mem h.2 hm
theorem smR_mem:∀ {l:List Redir} {w:Redir},smRs l→w∈l→smR w
 | x::r,w,h,hm=>by
   rw[smRs]at h
   rcases List.mem_cons.1 hm with rfl|hm
   ·exact h.1
   ·exact smR_mem h.2 hm
theorem right_is:∀n:Nat,(∀w:Word,nW w<n→nW w≤2000→smW w→K184 n w=some (rW w))∧(∀c:Cmd,nC c<n→nC c≤2000→smC c→K101 n c=some (rC c))
 | 0=>⟨fun _ h=>by omega,fun _ h=>by omega⟩
 | n+1=>by
   obtain⟨ihW,ihC⟩:=right_is n
   refine⟨fun w hn hb hs=>?_,fun c hn hb hs=>?_⟩
   ·show F184 (K101 n) (K184 n) w=_
    have h1:=nW_eq w
    have h2:=nWs_len w.words_
    have h3:=nCs_len w.cmd_
    rw[smW_eq]at hs
    exact F184_is _ _ w (by omega) (by omega) (fun x hx=>ihW x (by have:=nW_mem hx;omega) (by have:=nW_mem hx;omega) (sm_mem hs.2.2.1 hx)) (fun x hx=>ihC x (by have:=nC_mem hx;omega) (by have:=nC_mem hx;omega) (smC_mem hs.2.2.2 hx))
   ·show F101 (K101 n) (K184 n) c=_
    have h1:=nC_eq c
    have h2:=nWs_len c.words_
    have h3:=nCs_len c.kids_
    have h4:=nRs_len c.redirs_
    rw[smC_eq]at hs
    obtain⟨s1,s2,s3,s4,s5⟩:=hs
    refine F101_is _ _ c (by omega) (by omega) (by omega) (fun x hx=>ihW x (by have:=nW_mem hx;omega) (by have:=nW_mem hx;omega) (sm_mem s3 hx)) (fun x hx=>?_) (fun d hd=>?_) (fun x hx=>ihC x (by have:=nC_mem hx;omega) (by have:=nC_mem hx;omega) (smC_mem s5 hx)) (fun k hk=>?_)
    ·have hx':=sm_mem s3 hx
     rw[smW_eq]at hx'
     refine⟨by omega,fun y hy=>?_⟩
     have hy':=sm_mem hx'.2.2.1 hy
     rw[smW_eq]at hy'
     omega
    ·have g1:=nR_mem hd
     have g2:=nR_eq d
     have g3:=nW_eq d.word_
     have g4:=nWs_len d.word_.words_
     have g5:=nCs_len d.word_.cmd_
     have g6:=smR_mem s4 hd
     rw[smR_eq]at g6
     have g7:=g6
     rw[smW_eq]at g7
     exact⟨ihW _ (by omega) (by omega) g6,by omega,by omega⟩
    ·have g1:=nC_mem hk
     have g2:=nC_eq k
     have g3:=nWs_len k.words_
     have g4:=nCs_len k.kids_
     have g5:=smC_mem s5 hk
     rw[smC_eq]at g5
     exact⟨by omega,by omega,fun x hx=>ihW x (by have:=nW_mem hx;omega) (by have:=nW_mem hx;omega) (sm_mem g5.2.2.1 hx),fun x hx=>ihC x (by have:=nC_mem hx;omega) (by have:=nC_mem hx;omega) (smC_mem g5.2.2.2.2 hx)⟩
theorem F14_is(l:List Cmd)(hb:nCs l≤2000)(hs:smCs l):F14 l=some ((decide (szCs l≤1024)&&decide (dCs l≤32))&&l.all fun c=>lvl 4 c.kind_&&rC c):=by
 have hl:=nCs_len l
 rw[F14,(rsize_is BIG).2 l (by unfold BIG;omega) hb,Option.bind_some]
 have e1:decide ((szCs l:Int)≤1024)=decide (szCs l≤1024):=decide_eq_decide.2 (by omega)
 rw[e1]
 cases decide (szCs l≤1024)with
 | false=>rfl
 | true=>
   rw[guardO_t1,(rdepth_is BIG).2 l (by unfold BIG;omega) hb,Option.bind_some,Bool.true_and]
   have e2:decide ((dCs l:Int)≤32)=decide (dCs l≤32):=decide_eq_decide.2 (by omega)
   rw[e2]
   exact guardO_and fun _=>by
    rw[F30,up65 _ l 4 (by omega) (fun x hx=>(right_is BIG).2 x (by have:=nC_mem hx;unfold BIG;omega) (by have:=nC_mem hx;omega) (smC_mem hs hx))]
    rfl
end Go.Abs.U48
namespace Go.Abs.U48
open Go Go.Proofs
def shpB(c:Cmd)(n w r:Bool):Bool:=(bif n then nameB c.name_ else decide (c.name_=[]))&&((w||decide (c.words_.length=0))&&(r||decide (c.redirs_.length=0)))
theorem F99_is(c:Cmd)(n w r:Bool)(hn:c.name_.length≤1000000):F99 c (Shape.mk n w r)=some (shpB c n w r):=by
 rw[F99,F144_is _ (by omega),Option.bind_some,shpB]
 have e0:decide ((c.words_.length:Int)=0)=decide (c.words_.length=0):=decide_eq_decide.2 (by omega)
 have e1:decide ((c.redirs_.length:Int)=0)=decide (c.redirs_.length=0):=decide_eq_decide.2 (by omega)
 rw[e0,e1]
 show(bif (!(n==nameB c.name_)||(!n&&!decide (c.name_=[])))then some false else some ((w||decide (c.words_.length=0))&&(r||decide (c.redirs_.length=0))))=_
 cases n with
 | true=>
   cases nameB c.name_<;>rfl
 | false=>
   by_cases h:c.name_=[]
   ·rw[h];rfl
   ·rw[decide_eq_false h]
    cases nameB c.name_<;>rfl
section
variable (nm:Str)(w r n:Nat)
theorem r0:decide (0<r)=!decide (r=0):=by
 by_cases h:r=0
 ·rw[decide_eq_true h,decide_eq_false (by omega)];rfl
 ·rw[decide_eq_false h,decide_eq_true (by omega)];rfl
theorem shU(k:Int)(hk:k=3∨k=5∨k=6∨k=7∨k=8∨k=9∨k=11∨k=13∨k=14∨k=16∨k=17):shapeB k nm w r n=((decide (nm=[])&&decide (r=0)) &&
 (bif (decide (k=7)||(decide (k=13)||(decide (k=9)||decide (k=14))))then(decide (w=0)&&decide (n=1))
 else bif (decide (k=8)||(decide (k=11)||(decide (k=5)||decide (k=6))))then(decide (w=0)&&decide (n=2))
 else bif decide (k=3)then(decide (w=0)&&decide (2≤n))
 else bif decide (k=16)then(decide (0<w)&&decide (n=0))
 else decide (w=1))):=by
 rcases hk with rfl|rfl|rfl|rfl|rfl|rfl|rfl|rfl|rfl|rfl|rfl<;>(unfold shapeB;rw[r0];cases decide (nm=[])<;>cases decide (r=0)<;>rfl)
theorem sh1:shapeB 1 nm w r n=(decide (nm=[])&&(decide (0<w+r)&&decide (n=0))):=by
 unfold shapeB;rw[r0];cases decide (nm=[])<;>cases decide (r=0)<;>rfl
theorem sh12:shapeB 12 nm w r n=(decide (nm=[])&&decide (w=0)):=by
 unfold shapeB;rw[r0];cases decide (nm=[])<;>cases decide (r=0)<;>rfl
theorem sh2:shapeB 2 nm w r n=((nameB nm&&decide (r=0))&&(decide (w=1)&&decide (n≤1))):=by
 unfold shapeB;rw[r0];cases nameB nm<;>cases decide (r=0)<;>rfl
theorem sh10:shapeB 10 nm w r n=((nameB nm&&decide (r=0))&&decide (n=1)):=by
 unfold shapeB;rw[r0];cases nameB nm<;>cases decide (r=0)<;>rfl
theorem sh15:shapeB 15 nm w r n=((nameB nm&&decide (r=0))&&decide (w=0)):=by
 unfold shapeB;rw[r0];cases nameB nm<;>cases decide (r=0)<;>rfl
end
theorem all0{α:Type}(p:α→Bool)(l:List α):(decide (l.length=0)&&l.all p)=decide (l.length=0):=by
 cases l with
 | nil=>rfl
 | cons a l=>rw[show decide ((a::l).length=0)=false from decide_eq_false (by simp)];rfl
def oneB(ks:List Cmd):Bool:=match ks with
 | [u]=>lvl 1 u.kind_&&rC u
 | _=>false
theorem one_all(ks:List Cmd):(decide (ks.length=1)&&ks.all fun c=>lvl 1 c.kind_&&rC c)=oneB ks:=by
 rcases ks with _|⟨u,_|⟨v,r⟩⟩
 ·rfl
 ·rw[oneB,List.all_cons,List.all_nil,Bool.and_true];rfl
 ·rw[show decide ((u::v::r).length=1)=false from decide_eq_false (by simp)];rfl
theorem one_le(ks:List Cmd):(decide (ks.length≤1)&&ks.all fun c=>lvl 1 c.kind_&&rC c)=(decide (ks.length=0)||oneB ks):=by
 rcases ks with _|⟨u,_|⟨v,r⟩⟩
 ·rfl
 ·rw[oneB,List.all_cons,List.all_nil,Bool.and_true];rfl
 ·rw[show decide ((u::v::r).length≤1)=false from decide_eq_false (by simp)];rfl
theorem F29_is(w98:Cmd→Option Bool)(l:List Cmd)(hl:l.length≤1000000)(h:∀c∈l,F64 w98 c=some (lvl 4 c.kind_&&rC c)):F29 w98 l=some (l.all fun c=>lvl 4 c.kind_&&rC c):=by
 rw[F29,F49x1,F85x1,iter_range (body:=F85x1_b1 l w98) l (fun u i k=>(F63 w98 u).bind fun r=>bif r then some i else k) (some (-1)) (fun _ _=>rfl) (by omega)]
 obtain⟨r,e1,e2⟩:=loop_any (fun c=>!(lvl 4 c.kind_&&rC c)) (F63 w98) l 0 (fun x hx=>by rw[F63,h x hx];rfl)
 rw[show((0:Nat):Int)=0 from rfl]at e1
 rw[e1,Option.bind_some,Option.bind_some,e2,List.any_eq_not_all_not]
 simp only[Bool.not_not]
theorem F49x2_is(w182:Cmd→Option Bool)(l:List Cmd)(hl:l.length≤1000000)(h:∀c∈l,w182 c=some (lvl 1 c.kind_&&rC c)):F49x2 w182 l=some (!l.all fun c=>lvl 1 c.kind_&&rC c):=by
 rw[F49x2,F85x2,iter_range (body:=F85x2_b1 l w182) l (fun u i k=>(F183 w182 u).bind fun r=>bif r then some i else k) (some (-1)) (fun _ _=>rfl) (by omega)]
 obtain⟨r,e1,e2⟩:=loop_any (fun c=>!(lvl 1 c.kind_&&rC c)) (F183 w182) l 0 (fun x hx=>by rw[F183,h x hx];rfl)
 rw[show((0:Nat):Int)=0 from rfl]at e1
 rw[e1,Option.bind_some,e2,List.any_eq_not_all_not]
 simp only[Bool.not_not]
theorem F232x1_is(w260:Word→Option Bool)(l:List Word)(hl:l.length≤1000000)(h:∀c∈l,w260 c=some (!decide (c.kind_=4)&&rW c)):F232x1 w260 l=some (!l.all fun c=>!decide (c.kind_=4)&&rW c):=by
 rw[F232x1,F259x1,iter_range (body:=F259x1_b1 l w260) l (fun u i k=>(F261 w260 u).bind fun r=>bif r then some i else k) (some (-1)) (fun _ _=>rfl) (by omega)]
 obtain⟨r,e1,e2⟩:=loop_any (fun c:Word=>!(!decide (c.kind_=4)&&rW c)) (F261 w260) l 0 (fun x hx=>by rw[F261,h x hx];rfl)
 rw[show((0:Nat):Int)=0 from rfl]at e1
 rw[e1,Option.bind_some,e2,List.any_eq_not_all_not]
 simp only[Bool.not_not]
theorem F207_is(w260:Word→Option Bool)(l:List Word)(hl:l.length≤1000000)(h:∀c∈l,F234 w260 c=some (rW c)):F207 w260 l=some (l.all rW):=by
 rw[F207,F232,F259,iter_range (body:=F259_b1 l w260) l (fun u i k=>(F233 w260 u).bind fun r=>bif r then some i else k) (some (-1)) (fun _ _=>rfl) (by omega)]
 obtain⟨r,e1,e2⟩:=loop_any (fun c=>!rW c) (F233 w260) l 0 (fun x hx=>by rw[F233,h x hx];rfl)
 rw[show((0:Nat):Int)=0 from rfl]at e1
 rw[e1,Option.bind_some,Option.bind_some,e2,List.any_eq_not_all_not]
 simp only[Bool.not_not]
theorem F209_is(w260:Word→Option Bool)(l:List Redir)(hl:l.length≤1000000)(h:∀c∈l,F237 w260 c=some (rR c)):F209 w260 l=some (l.all rR):=by
 rw[F209,F235,F262,iter_range (body:=F262_b1 l w260) l (fun u i k=>(F236 w260 u).bind fun r=>bif r then some i else k) (some (-1)) (fun _ _=>rfl) (by omega)]
 obtain⟨r,e1,e2⟩:=loop_any (fun c=>!rR c) (F236 w260) l 0 (fun x hx=>by rw[F236,h x hx];rfl)
 rw[show((0:Nat):Int)=0 from rfl]at e1
 rw[e1,Option.bind_some,Option.bind_some,e2,List.any_eq_not_all_not]
 simp only[Bool.not_not]
theorem F49x3_is(w98:Cmd→Option Bool)(w260:Word→Option Bool)(l:List Cmd)(hl:l.length≤1000000)(h:∀c∈l,F212 w98 w260 c=some (rCase c)):F49x3 w98 w260 l=some (!l.all rCase):=by
 rw[F49x3,F85x3,iter_range (body:=F85x3_b1 l w98 w260) l (fun u i k=>(F211 w98 w260 u).bind fun r=>bif r then some i else k) (some (-1)) (fun _ _=>rfl) (by omega)]
 obtain⟨r,e1,e2⟩:=loop_any (fun c=>!rCase c) (F211 w98 w260) l 0 (fun x hx=>by rw[F211,h x hx];rfl)
 rw[show((0:Nat):Int)=0 from rfl]at e1
 rw[e1,Option.bind_some,e2,List.any_eq_not_all_not]
 simp only[Bool.not_not]
theorem F208_is(w182:Cmd→Option Bool)(l:List Cmd)(h:∀c∈l,w182 c=some (lvl 1 c.kind_&&rC c)):F208 w182 l=some (oneB l):=by
 rw[F208]
 rcases l with _|⟨u,_|⟨v,r⟩⟩
 ·rfl
 ·show(some u).bind _=_
  rw[Option.bind_some]
  show(w182 u).bind _=_
  rw[h u (by simp)]
  rfl
 ·rw[show decide (((u::v::r).length:Int)=1)=false from decide_eq_false (by simp;omega)]
  rfl
theorem F264_is(w:Word):F264 w=some (noneB w):=by
 rw[F264,noneB]
 have e0:decide ((w.words_.length:Int)=0)=decide (w.words_.length=0):=decide_eq_decide.2 (by omega)
 have e1:decide ((w.cmd_.length:Int)=0)=decide (w.cmd_.length=0):=decide_eq_decide.2 (by omega)
 have e2:decide (w.words_.length+w.cmd_.length=0)=(decide (w.words_.length=0)&&decide (w.cmd_.length=0)):=by
  rw[←Bool.decide_and]
  exact decide_eq_decide.2 (by omega)
 rw[e0,e1,e2,Bool.and_assoc]
theorem F108_is(t:Str)(hl:t.length≤1000000):F108 t [10]=some (lastB t):=by
 rw[F108,F155]
 cases ht:t with
 | nil=>rfl
 | cons a s=>
   rw[←ht]
   have hp:0<t.length:=by rw[ht];simp
   have e:decide (((([10]:Str).length:Nat):Int)≤(t.length:Int))=true:=decide_eq_true (by simp;omega)
   rw[e,guardO_t1,wrap64 (by simp;omega) (by simp;omega),sslice,if_pos (by simp;omega),Option.bind_some,Option.bind_some,Bool.true_and]
   rw[lastB]
   congr 1
   refine decide_eq_decide.2 ?_
   rw[show((t.length:Int)-((([10]:Str).length:Nat):Int)).toNat=t.length-1 by first|(simp;done)|(simp;omega),show((t.length:Int)).toNat-(t.length-1)=1 by first|(simp;done)|(simp;omega)]
   rw[List.getLast?_eq_getElem?,drop_at (show t.length-1<t.length by omega),List.getElem?_eq_getElem (by omega),List.take_succ_cons,List.take_zero]
   simp
theorem marks0:∀ (q:Str) (n:Nat),((decide (n=q.length)&&q.all mkB)&&!q.contains 49)=decide (q=List.replicate n 48)
 | [],0=>rfl
 | [],n+1=>by simp[List.replicate]
 | a::q,0=>by simp
 | a::q,n+1=>by
   have ih:=marks0 q n
   have e:decide (n+1=(a::q).length)=decide (n=q.length):=decide_eq_decide.2 (by simp)
   rw[e,List.all_cons,List.contains_cons,List.replicate_succ]
   by_cases h:a=48
   ·subst h
    have:decide ((48:UInt8)::q=48::List.replicate n 48)=decide (q=List.replicate n 48):=decide_eq_decide.2 (by simp)
    rw[this,←ih]
    rfl
   ·have:decide (a::q=48::List.replicate n 48)=false:=decide_eq_false (by simp[h])
    rw[this]
    by_cases h2:a=49
    ·subst h2
     cases decide (n=q.length)<;>cases q.all mkB<;>rfl
    ·have hm:mkB a=false:=by
      have g1:=byte_eq a 48
      have g2:=byte_eq a 49
      rw[mkB,B]
      rw[show(48:Int)=(((48:UInt8).toNat:Nat):Int) from rfl,show(49:Int)=(((49:UInt8).toNat:Nat):Int) from rfl,g1,g2,decide_eq_false h,decide_eq_false h2]
      rfl
     rw[hm]
     cases decide (n=q.length)<;>rfl
theorem F237_is(w260:Word→Option Bool)(d:Redir)(hw:F234 w260 d.word_=some (rW d.word_))(h2:d.word_.text_.length≤1000000)(h3:d.word_.quoted_.length≤1000000):F237 w260 d=some (rR d):=by
 rw[F237,rR_eq]
 simp only[cond_self]
 have e0:(((((decide (d.fd_<0)||decide (64≤d.fd_))||decide (d.from_<0))||decide (64≤d.from_))||(!decide (d.kind_=4)&&d.raw_))||(!decide (d.kind_=5)&&!decide (d.from_=0)))=(((((decide (d.fd_<0)||decide (64≤d.fd_))||decide (d.from_<0))||decide (64≤d.from_))||(!decide (d.kind_=5)&&!decide (d.from_=0)))||(!decide (d.kind_=4)&&d.raw_)):=by
  rw[Bool.or_assoc,Bool.or_comm (!decide (d.kind_=4)&&d.raw_),←Bool.or_assoc]
 rw[e0]
 cases((((((decide (d.fd_<0)||decide (64≤d.fd_))||decide (d.from_<0))||decide (64≤d.from_))||(!decide (d.kind_=5)&&!decide (d.from_=0)))||(!decide (d.kind_=4)&&d.raw_)))with
 | true=>rfl
 | false=>
   rw[cond_f,cond_f]
   cases(decide (d.kind_=1)||(decide (d.kind_=2)||decide (d.kind_=3)))with
   | true=>rw[cond_t,cond_t,hw];rfl
   | false=>
     rw[cond_f,cond_f]
     by_cases h4:d.kind_=4
     ·have h56:(decide (d.kind_=5)||decide (d.kind_=6))=false:=by rw[h4];rfl
      rw[decide_eq_true h4,cond_t,h56,cond_f,cond_t,hereB]
      have hg:∀b:Bool,guardO b (F108 d.word_.text_ [10])=some (b&&lastB d.word_.text_):=fun b=>by
       cases b
       ·rfl
       ·rw[guardO_t1,F108_is _ h2,Bool.true_and]
      rw[hg,Option.bind_some]
      have i0:decide ((d.word_.words_.length:Int)=0)=decide (d.word_.words_.length=0):=decide_eq_decide.2 (by omega)
      have i1:decide ((d.word_.cmd_.length:Int)=0)=decide (d.word_.cmd_.length=0):=decide_eq_decide.2 (by omega)
      have i2:decide (d.word_.words_.length+d.word_.cmd_.length=0)=(decide (d.word_.words_.length=0)&&decide (d.word_.cmd_.length=0)):=by
       rw[←Bool.decide_and]
       exact decide_eq_decide.2 (by omega)
      rw[i0,i1,i2,←marks0]
      cases(decide (d.fd_=0)&&decide (d.word_.kind_=1))with
      | false=>rfl
      | true=>
        rw[Bool.true_and,Bool.true_and]
        cases decide (d.word_.words_.length=0)with
        | false=>
          cases(((decide (d.word_.text_.length=d.word_.quoted_.length)&&d.word_.quoted_.all mkB)&&!d.word_.quoted_.contains 49))<;>rfl
        | true=>
          rw[Bool.true_and]
          cases decide (d.word_.cmd_.length=0)with
          | false=>
            cases(((decide (d.word_.text_.length=d.word_.quoted_.length)&&d.word_.quoted_.all mkB)&&!d.word_.quoted_.contains 49))<;>rfl
          | true=>
            rw[guardO_t1,F263_is _ h3,Option.bind_some,Bool.true_and,Bool.and_true]
            cases(decide (d.word_.text_.length=d.word_.quoted_.length)&&d.word_.quoted_.all mkB)with
            | false=>rfl
            | true=>
              rw[guardO_t1,L_IndexByte_49,Option.bind_some,idx_lt,Bool.true_and]
              cases d.word_.quoted_.contains 49<;>cases decide (d.word_.text_=[])<;>cases lastB d.word_.text_<;>rfl
     ·rw[decide_eq_false h4,cond_f]
      cases(decide (d.kind_=5)||decide (d.kind_=6))with
      | true=>rw[cond_t,cond_t,F264_is];rfl
      | false=>rfl
theorem F234_is(w260:Word→Option Bool)(w:Word)(hl:w.words_.length≤1000000)(h0:w260 w=some (!decide (w.kind_=4)&&rW w))(h:∀x∈w.words_,w260 x=some (!decide (x.kind_=4)&&rW x)):F234 w260 w=some (rW w):=by
 rw[F234]
 by_cases h4:w.kind_=4
 ·rw[decide_eq_true h4,Bool.not_true,cond_f,rW_eq,h4]
  show _=some ((w.words_.all fun x=>!decide (x.kind_=4))&&((((decide (w.text_=[])&&decide (w.quoted_=[]))&&decide (1<w.words_.length))&&decide (w.cmd_.length=0))&&w.words_.all rW))
  have i1:decide ((w.cmd_.length:Int)=0)=decide (w.cmd_.length=0):=decide_eq_decide.2 (by omega)
  have i2:decide (2≤(w.words_.length:Int))=decide (1<w.words_.length):=decide_eq_decide.2 (by omega)
  rw[i1,i2,F232x1_is w260 _ hl h,all_and]
  cases decide (w.text_=[])<;>cases decide (w.quoted_=[])<;>cases decide (w.cmd_.length=0)<;>cases decide (1<w.words_.length)<;>cases(w.words_.all fun x=>!decide (x.kind_=4))<;>cases w.words_.all rW<;>rfl
 ·rw[decide_eq_false h4,Bool.not_false,cond_t,h0,decide_eq_false h4]
  rfl
theorem lvl43{k:Int}(h:k≠14):lvl 4 k=lvl 3 k:=by
 rw[lvl,lvl,lev,decide_eq_false h]
 generalize (decide (k=1)||(decide (k=2)||(decide (k=7)||(decide (k=8)||(decide (k=9)||(decide (k=10)||(decide (k=11)||(decide (k=12)||(decide (k=13)||(decide (k=15)||(decide (k=16)||decide (k=17))))))))))))=a
 generalize decide (k=3)=b
 generalize (decide (k=5)||decide (k=6))=c
 cases a<;>cases b<;>cases c<;>rfl
theorem lvl32{k:Int}(h:(decide (k=5)||decide (k=6))=false):lvl 3 k=lvl 2 k:=by
 rw[lvl,lvl,lev,h]
 generalize (decide (k=1)||(decide (k=2)||(decide (k=7)||(decide (k=8)||(decide (k=9)||(decide (k=10)||(decide (k=11)||(decide (k=12)||(decide (k=13)||(decide (k=15)||(decide (k=16)||decide (k=17))))))))))))=a
 generalize decide (k=3)=b
 generalize decide (k=14)=c
 cases a<;>cases b<;>cases c<;>rfl
theorem lvl21{k:Int}(h:k≠3):lvl 2 k=lvl 1 k:=by
 rw[lvl,lvl,lev,decide_eq_false h]
 generalize (decide (k=1)||(decide (k=2)||(decide (k=7)||(decide (k=8)||(decide (k=9)||(decide (k=10)||(decide (k=11)||(decide (k=12)||(decide (k=13)||(decide (k=15)||(decide (k=16)||decide (k=17))))))))))))=a
 generalize decide (k=14)=b
 generalize (decide (k=5)||decide (k=6))=c
 cases a<;>cases b<;>cases c<;>rfl
theorem combA{N r0 w0 X A R P:Bool}(ha:(w0&&A)=w0)(hr:(r0&&R)=r0):(((((N&&r0)&&(w0&&X))&&A)&&R)&&P)=((N&&((false||w0)&&(false||r0)))&&(X&&P)):=by
 revert ha hr
 cases N<;>cases r0<;>cases w0<;>cases X<;>cases A<;>cases R<;>cases P<;>decide
theorem combB{N r0 w0 Y A R P:Bool}(hr:(r0&&R)=r0):(((((N&&r0)&&Y)&&A)&&R)&&P)=((((N&&((true||w0)&&(false||r0)))&&Y)&&A)&&P):=by
 revert hr
 cases N<;>cases r0<;>cases w0<;>cases Y<;>cases A<;>cases R<;>cases P<;>decide
section
variable (c:Cmd)
theorem rC_14(hk:c.kind_=14):rC c=(shpB c false false false&&(decide (c.kids_.length=1)&&c.kids_.all fun c=>lvl 3 c.kind_&&rC c)):=by
 rw[rC_eq,hk,shU _ _ _ _ 14 (by decide),shpB]
 exact combA (all0 _ _) (all0 _ _)
theorem rC_56(hk:c.kind_=5∨c.kind_=6):rC c=(shpB c false false false&&(decide (c.kids_.length=2)&&rAnd c.kids_)):=by
 rcases hk with hk|hk
 ·rw[rC_eq,hk,shU _ _ _ _ 5 (by decide),shpB]
  exact combA (all0 _ _) (all0 _ _)
 ·rw[rC_eq,hk,shU _ _ _ _ 6 (by decide),shpB]
  exact combA (all0 _ _) (all0 _ _)
theorem rC_3(hk:c.kind_=3):rC c=(shpB c false false false&&(decide (2≤c.kids_.length)&&c.kids_.all fun c=>lvl 1 c.kind_&&rC c)):=by
 rw[rC_eq,hk,shU _ _ _ _ 3 (by decide),shpB]
 exact combA (all0 _ _) (all0 _ _)
theorem rC_811(hk:c.kind_=8∨c.kind_=11):rC c=(shpB c false false false&&(decide (c.kids_.length=2)&&rIf c.kids_)):=by
 rcases hk with hk|hk
 ·rw[rC_eq,hk,shU _ _ _ _ 8 (by decide),shpB]
  exact combA (all0 _ _) (all0 _ _)
 ·rw[rC_eq,hk,shU _ _ _ _ 11 (by decide),shpB]
  exact combA (all0 _ _) (all0 _ _)
theorem rC_7(hk:c.kind_=7∨c.kind_=13∨c.kind_=9):rC c=(shpB c false false false&&oneB c.kids_):=by
 rw[←one_all]
 rcases hk with hk|hk|hk
 ·rw[rC_eq,hk,shU _ _ _ _ 7 (by decide),shpB]
  exact combA (all0 _ _) (all0 _ _)
 ·rw[rC_eq,hk,shU _ _ _ _ 13 (by decide),shpB]
  exact combA (all0 _ _) (all0 _ _)
 ·rw[rC_eq,hk,shU _ _ _ _ 9 (by decide),shpB]
  exact combA (all0 _ _) (all0 _ _)
theorem rC_2(hk:c.kind_=2):rC c=(((shpB c true true false&&decide (c.words_.length=1))&&c.words_.all rW)&&(decide (c.kids_.length=0)||oneB c.kids_)):=by
 rw[←one_le,rC_eq,hk,sh2,shpB,←Bool.and_assoc (nameB c.name_&&_)]
 have h:=combB (N:=nameB c.name_) (w0:=decide (c.words_.length=0)) (Y:=decide (c.words_.length=1)&&decide (c.kids_.length≤1)) (A:=c.words_.all rW) (P:=c.kids_.all fun c=>lvl 1 c.kind_&&rC c) (all0 rR c.redirs_)
 show(((((nameB c.name_&&decide (c.redirs_.length=0))&&decide (c.words_.length=1))&&decide (c.kids_.length≤1))&&c.words_.all rW)&&c.redirs_.all rR&&c.kids_.all fun c=>lvl 1 c.kind_&&rC c)=_
 rw[Bool.and_assoc (nameB c.name_&&decide (c.redirs_.length=0)),h]
 show _=((((nameB c.name_&&_)&&decide (c.words_.length=1))&&c.words_.all rW)&&_)
 cases decide (c.words_.length=1)<;>cases decide (c.kids_.length≤1)<;>cases c.words_.all rW<;>simp
theorem rC_10(hk:c.kind_=10):rC c=((shpB c true true false&&c.words_.all rW)&&oneB c.kids_):=by
 rw[←one_all,rC_eq,hk,sh10,shpB]
 have h:=combB (N:=nameB c.name_) (w0:=decide (c.words_.length=0)) (Y:=decide (c.kids_.length=1)) (A:=c.words_.all rW) (P:=c.kids_.all fun c=>lvl 1 c.kind_&&rC c) (all0 rR c.redirs_)
 refine h.trans ?_
 show _=(((nameB c.name_&&_)&&c.words_.all rW)&&_)
 cases decide (c.kids_.length=1)<;>cases c.words_.all rW<;>simp
theorem rC_17(hk:c.kind_=17):rC c=(((shpB c false true false&&decide (c.words_.length=1))&&c.words_.all rW)&&c.kids_.all rCase):=by
 rw[rC_eq,hk,shU _ _ _ _ 17 (by decide),shpB]
 exact combB (N:=decide (c.name_=[])) (w0:=decide (c.words_.length=0)) (Y:=decide (c.words_.length=1)) (all0 rR c.redirs_)
theorem rC_15(hk:c.kind_=15):rC c=(shpB c true false false&&c.kids_.all fun c=>lvl 4 c.kind_&&rC c):=by
 rw[rC_eq,hk,sh15,shpB]
 have h:=combA (N:=nameB c.name_) (X:=true) (P:=c.kids_.all fun c=>lvl 4 c.kind_&&rC c) (all0 rW c.words_) (all0 rR c.redirs_)
 rw[Bool.and_true,Bool.true_and]at h
 exact h
theorem rC_12(hk:c.kind_=12):rC c=((shpB c false false true&&c.kids_.all fun c=>lvl 4 c.kind_&&rC c)&&c.redirs_.all rR):=by
 rw[rC_eq,hk,sh12,shpB]
 show((((decide (c.name_=[])&&decide (c.words_.length=0))&&c.words_.all rW)&&c.redirs_.all rR)&&c.kids_.all fun c=>lvl 4 c.kind_&&rC c)=((decide (c.name_=[])&&((false||decide (c.words_.length=0))&&true)&&c.kids_.all fun c=>lvl 4 c.kind_&&rC c)&&c.redirs_.all rR)
 have h:=all0 rW c.words_
 rw[Bool.and_assoc (decide (c.name_=[])),h]
 cases decide (c.name_=[])<;>cases decide (c.words_.length=0)<;>cases c.redirs_.all rR<;>cases(c.kids_.all fun c=>lvl 4 c.kind_&&rC c)<;>rfl
theorem rC_16(hk:c.kind_=16):rC c=(((shpB c false true false&&decide (0<c.words_.length))&&decide (c.kids_.length=0))&&c.words_.all rW):=by
 rw[rC_eq,hk,shU _ _ _ _ 16 (by decide),shpB]
 have h:=combB (N:=decide (c.name_=[])) (w0:=decide (c.words_.length=0)) (Y:=decide (0<c.words_.length)&&decide (c.kids_.length=0)) (A:=c.words_.all rW) (P:=c.kids_.all fun c=>lvl 1 c.kind_&&rC c) (all0 rR c.redirs_)
 refine h.trans ?_
 have h2:=all0 (fun c:Cmd=>lvl 1 c.kind_&&rC c) c.kids_
 revert h2
 show _→_=(((decide (c.name_=[])&&_)&&_&&_)&&_)
 cases decide (0<c.words_.length)<;>cases decide (c.kids_.length=0)<;>cases c.words_.all rW<;>cases(c.kids_.all fun c=>lvl 1 c.kind_&&rC c)<;>simp
theorem rC_1(hk:c.kind_=1):rC c=((decide (c.name_=[])&&decide (c.kids_.length=0))&&(((decide (0<c.words_.length+c.redirs_.length)&&c.words_.all rW)&&c.redirs_.all rR)&&(decide (c.words_.length=0)||!headKw c.words_))):=by
 rw[rC_eq,hk,sh1]
 show((((decide (c.name_=[])&&(decide (0<c.words_.length+c.redirs_.length)&&decide (c.kids_.length=0)))&&c.words_.all rW)&&c.redirs_.all rR)&&(decide (c.words_.length=0)||!headKw c.words_))=_
 cases decide (c.name_=[])<;>cases decide (c.kids_.length=0)<;>cases decide (0<c.words_.length+c.redirs_.length)<;>cases c.words_.all rW<;>cases c.redirs_.all rR<;>cases(decide (c.words_.length=0)||!headKw c.words_)<;>rfl
end
theorem F64_is(w98:Cmd→Option Bool)(c:Cmd)(hn:c.name_.length≤1000000)(h0:w98 c=some (lvl 3 c.kind_&&rC c))(h:∀x∈c.kids_,w98 x=some (lvl 3 x.kind_&&rC x)):F64 w98 c=some (lvl 4 c.kind_&&rC c):=by
 rw[F64]
 by_cases hk:c.kind_=14
 ·rw[decide_eq_true hk,Bool.not_true,cond_f,F99_is _ _ _ _ hn,Option.bind_some,rC_14 c hk,hk]
  show _=some (true&&_)
  rw[Bool.true_and]
  cases shpB c false false false with
  | false=>rfl
  | true=>
    rw[Bool.true_and]
    rcases hx:c.kids_ with _|⟨u,_|⟨v,r⟩⟩
    ·rfl
    ·rw[hx]at h
     show(some u).bind _=_
     rw[Option.bind_some]
     show(w98 u).bind _=_
     rw[h u (by simp),List.all_cons,List.all_nil,Bool.and_true]
     rfl
    ·rw[show decide (((u::v::r).length:Int)=1)=false from decide_eq_false (by simp;omega),show decide ((u::v::r).length=1)=false from decide_eq_false (by simp)]
     rfl
 ·rw[decide_eq_false hk,Bool.not_false,cond_t,h0,lvl43 hk]
  rfl
theorem F143_is(w182:Cmd→Option Bool)(c:Cmd)(hn:c.name_.length≤1000000)(hl:c.kids_.length≤1000000)(h0:w182 c=some (lvl 1 c.kind_&&rC c))(h:∀x∈c.kids_,w182 x=some (lvl 1 x.kind_&&rC x)):F143 w182 c=some (lvl 2 c.kind_&&rC c):=by
 rw[F143]
 by_cases hk:c.kind_=3
 ·rw[decide_eq_true hk,Bool.not_true,cond_f,F99_is _ _ _ _ hn,Option.bind_some,rC_3 c hk,hk]
  show _=some (true&&_)
  have e:decide (2≤(c.kids_.length:Int))=decide (2≤c.kids_.length):=decide_eq_decide.2 (by omega)
  rw[Bool.true_and,e,F49x2_is w182 _ hl h]
  cases shpB c false false false<;>cases decide (2≤c.kids_.length)<;>cases(c.kids_.all fun c=>lvl 1 c.kind_&&rC c)<;>rfl
 ·rw[decide_eq_false hk,Bool.not_false,cond_t,h0,lvl21 hk]
  rfl
theorem F98_is(w98 w182:Cmd→Option Bool)(c:Cmd)(hn:c.name_.length≤1000000)(hl:c.kids_.length≤1000000)(h0:w182 c=some (lvl 1 c.kind_&&rC c))(h:∀x∈c.kids_,w182 x=some (lvl 1 x.kind_&&rC x))(h98:∀x∈c.kids_,w98 x=some (lvl 3 x.kind_&&rC x))
 (hk2:∀x∈c.kids_,x.name_.length≤1000000∧x.kids_.length≤1000000∧∀y∈x.kids_,w182 y=some (lvl 1 y.kind_&&rC y)):F98 w98 w182 c=some (lvl 3 c.kind_&&rC c):=by
 rw[F98]
 cases hk:(decide (c.kind_=5)||decide (c.kind_=6))with
 | false=>
   have:(!decide (c.kind_=5)&&!decide (c.kind_=6))=true:=by rw[←Bool.not_or,hk];rfl
   rw[this,cond_t,F143_is w182 c hn hl h0 h,lvl32 hk]
   rfl
 | true=>
   have:(!decide (c.kind_=5)&&!decide (c.kind_=6))=false:=by rw[←Bool.not_or,hk];rfl
   rw[this,cond_f,F99_is _ _ _ _ hn,Option.bind_some]
   simp only[Bool.or_eq_true,decide_eq_true_eq]at hk
   rw[rC_56 c hk]
   have hl3:lvl 3 c.kind_=true:=by rcases hk with hk|hk<;>(rw[hk];rfl)
   rw[hl3,Bool.true_and]
   cases shpB c false false false with
   | false=>rfl
   | true=>
     rw[Bool.true_and,Bool.true_and]
     by_cases h2:c.kids_.length=2
     ·obtain⟨a,b,e⟩:=two h2
      rw[e]at h h98 hk2 ⊢
      show(some a).bind _=some (true&&rAnd [a,b])
      rw[Option.bind_some]
      show(w98 a).bind _=_
      rw[h98 a (by simp),Option.bind_some,rAnd,rUp_all,List.all_cons,List.all_nil,Bool.and_true]
      cases(lvl 3 a.kind_&&rC a)with
      | false=>rfl
      | true=>
        show(some b).bind _=_
        rw[Option.bind_some]
        show(F143 w182 b).bind _=_
        have hb:=hk2 b (by simp)
        rw[F143_is w182 b hb.1 hb.2.1 (h b (by simp)) hb.2.2]
        rfl
     ·have e:decide ((c.kids_.length:Int)=2)=false:=decide_eq_false (by omega)
      rw[e,decide_eq_false h2]
      rfl
theorem F260_is(w98:Cmd→Option Bool)(w260:Word→Option Bool)(w:Word)(ht:w.text_.length≤1000000)(hq:w.quoted_.length≤1000000)(hl:w.words_.length+w.cmd_.length≤1000000)(hw:∀x∈w.words_,F234 w260 x=some (rW x))(hc:∀x∈w.cmd_,F64 w98 x=some (lvl 4 x.kind_&&rC x)):
 F260 w98 w260 w=some (!decide (w.kind_=4)&&rW w):=by
 rw[F260,F144_is _ (by omega),Option.bind_some,rW_eq]
 have i0:decide ((w.words_.length:Int)=0)=decide (w.words_.length=0):=decide_eq_decide.2 (by omega)
 have i1:decide ((w.cmd_.length:Int)=0)=decide (w.cmd_.length=0):=decide_eq_decide.2 (by omega)
 have i2:decide (w.words_.length+w.cmd_.length=0)=(decide (w.words_.length=0)&&decide (w.cmd_.length=0)):=by
  rw[←Bool.decide_and]
  exact decide_eq_decide.2 (by omega)
 have i3:decide (1≤(w.words_.length:Int))=decide (0<w.words_.length):=decide_eq_decide.2 (by omega)
 rw[i0,i1,i2,i3,F278_is w hq,F207_is w260 w.words_ (by omega) hw,F29_is w98 w.cmd_ (by omega) hc]
 simp only[cond_self]
 by_cases h1:w.kind_=1
 ·rw[h1]
  show _=some (textB w.text_ w.quoted_&&_)
  cases decide (w.words_.length=0)<;>cases decide (w.cmd_.length=0)<;>cases textB w.text_ w.quoted_<;>rfl
 ·rw[decide_eq_false h1,cond_f,cond_f]
  cases h23:(decide (w.kind_=2)||decide (w.kind_=3))with
  | true=>
    have h4:decide (w.kind_=4)=false:=by
     simp only[Bool.or_eq_true,decide_eq_true_eq]at h23
     exact decide_eq_false (by omega)
    rw[cond_t,cond_t,h4]
    cases decide (w.words_.length=0)<;>cases decide (w.cmd_.length=0)<;>cases nameB w.text_<;>cases decide (w.quoted_=[])<;>rfl
  | false=>
    rw[cond_f,cond_f]
    by_cases h7:w.kind_=7
    ·rw[h7]
     show _=some ((((nameB w.text_&&decide (w.quoted_=[]))&&decide (0<w.words_.length))&&decide (w.cmd_.length=0))&&w.words_.all rW)
     cases decide (0<w.words_.length)<;>cases decide (w.cmd_.length=0)<;>cases nameB w.text_<;>cases decide (w.quoted_=[])<;>cases w.words_.all rW<;>rfl
    ·rw[decide_eq_false h7,cond_f,cond_f]
     by_cases h5:w.kind_=5
     ·rw[h5]
      show _=some (((decide (w.text_=[])&&decide (w.quoted_=[]))&&decide (w.cmd_.length=0))&&w.words_.all rW)
      cases decide (w.cmd_.length=0)<;>cases decide (w.text_=[])<;>cases decide (w.quoted_=[])<;>cases w.words_.all rW<;>rfl
     ·rw[decide_eq_false h5,cond_f,cond_f]
      by_cases h6:w.kind_=6
      ·rw[h6]
       show _=some (((decide (w.text_=[])&&decide (w.quoted_=[]))&&decide (w.words_.length=0))&&w.cmd_.all fun c=>lvl 4 c.kind_&&rC c)
       cases decide (w.words_.length=0)<;>cases decide (w.text_=[])<;>cases decide (w.quoted_=[])<;>cases(w.cmd_.all fun c=>lvl 4 c.kind_&&rC c)<;>rfl
      ·rw[decide_eq_false h6,cond_f,cond_f]
       cases decide (w.kind_=4)<;>rfl
end Go.Abs.U48
namespace Go.Abs.U48
open Go Go.Proofs
theorem F210_is(w98:Cmd→Option Bool)(c:Cmd)(hn:c.name_.length≤1000000)(hl:c.kids_.length≤1000000)(h:∀x∈c.kids_,F64 w98 x=some (lvl 4 x.kind_&&rC x)):F210 w98 c=some ((decide (c.kind_=12)&&decide (c.redirs_.length=0))&&rC c):=by
 rw[F210]
 by_cases hk:c.kind_=12
 ·rw[decide_eq_true hk,guardO_t1,F99_is _ _ _ _ hn,Option.bind_some,Bool.true_and,Bool.true_and,rC_12 c hk]
  have e:shpB c false false false=(decide (c.redirs_.length=0)&&shpB c false false true):=by
   rw[shpB,shpB]
   cases decide (c.name_=[])<;>cases decide (c.words_.length=0)<;>cases decide (c.redirs_.length=0)<;>rfl
  rw[e]
  cases hr:decide (c.redirs_.length=0)with
  | false=>rfl
  | true=>
    have:c.redirs_.all rR=true:=by
     rw[List.eq_nil_of_length_eq_zero (of_decide_eq_true hr)];rfl
    rw[this,Bool.and_true,Bool.true_and,Bool.true_and]
    exact guardO_and fun _=>F29_is w98 _ hl h
 ·rw[decide_eq_false hk]
  rfl
theorem F212_is(w98:Cmd→Option Bool)(w260:Word→Option Bool)(c:Cmd)(hn:c.name_.length≤1000000)(hl:c.kids_.length≤1000000)(hl2:c.words_.length≤1000000)(h:∀x∈c.kids_,F64 w98 x=some (lvl 4 x.kind_&&rC x))(hw:∀x∈c.words_,F234 w260 x=some (rW x)):F212 w98 w260 c=some (rCase c):=by
 rw[F212,rCase_eq]
 cases decide (c.kind_=18)with
 | false=>rfl
 | true=>
   rw[guardO_t1,F99_is _ _ _ _ hn,Option.bind_some,Bool.true_and,Bool.true_and,F207_is w260 _ hl2 hw,F29_is w98 _ hl h]
   have e:shpB c false true false=(decide (c.name_=[])&&decide (c.redirs_.length=0)):=by
    rw[shpB]
    cases decide (c.name_=[])<;>cases decide (c.words_.length=0)<;>cases decide (c.redirs_.length=0)<;>rfl
   have i3:decide (1≤(c.words_.length:Int))=!decide (c.words_.length=0):=by
    by_cases h:c.words_.length=0
    ·rw[decide_eq_true h,decide_eq_false (by omega)];rfl
    ·rw[decide_eq_false h,decide_eq_true (by omega)];rfl
   rw[e,i3]
   cases decide (c.name_=[])<;>cases decide (c.redirs_.length=0)<;>cases decide (c.words_.length=0)<;>cases c.words_.all rW<;>cases(c.kids_.all fun c=>lvl 4 c.kind_&&rC c)<;>rfl
theorem F213_j1_is(k:Int)(t q:Str)(ws:List Word)(cs:List Cmd)(ht:t.length≤1000000):F213_j1 (k,t,q,ws,cs)=some (!((decide (k=1)&&keyB t)&&!markedB q)):=by
 rw[F213_j1]
 cases decide (k=1)with
 | false=>rfl
 | true=>
   rw[guardO_t1,L_IndexByte_49,Option.bind_some,idx_lt,Bool.true_and,Bool.true_and]
   rw[show q.contains 49=markedB q from rfl]
   cases markedB q with
   | true=>
     show some _=_
     cases keyB t<;>rfl
   | false=>
     rw[Bool.not_false,guardO_t1,F134_is _ (by omega),Option.bind_some,Bool.true_and,kws_key,Bool.and_true]
theorem F213_is(w260:Word→Option Bool)(c:Cmd)(hl:c.words_.length+c.redirs_.length≤1000000)(hw:∀x∈c.words_,F234 w260 x=some (rW x))(hr:∀x∈c.redirs_,F237 w260 x=some (rR x))(ht:∀x∈c.words_,x.text_.length≤1000000∧∀y∈x.words_,y.text_.length≤1000000):
 F213 w260 c=some (((decide (0<c.words_.length+c.redirs_.length)&&c.words_.all rW)&&c.redirs_.all rR)&&(decide (c.words_.length=0)||!headKw c.words_)):=by
 rw[F213,sum0 hl,F207_is w260 _ (by omega) hw,F209_is w260 _ (by omega) hr]
 have e0:decide (0<c.words_.length+c.redirs_.length)=!decide (c.words_.length+c.redirs_.length=0):=by
  by_cases h:c.words_.length+c.redirs_.length=0
  ·rw[decide_eq_true h,decide_eq_false (by omega)];rfl
  ·rw[decide_eq_false h,decide_eq_true (by omega)];rfl
 have i0:decide ((c.words_.length:Int)=0)=decide (c.words_.length=0):=decide_eq_decide.2 (by omega)
 rw[e0,i0]
 cases decide (c.words_.length+c.redirs_.length=0)with
 | true=>rfl
 | false=>
   rw[Bool.not_false,guardO_t1,Option.bind_some,Bool.true_and,Bool.false_or]
   cases hws:c.words_.all rW with
   | false=>rfl
   | true=>
     rw[Bool.not_true,Bool.not_false,guardO_t1,Option.bind_some,Bool.false_or,Bool.true_and]
     cases c.redirs_.all rR with
     | false=>rfl
     | true=>
       rw[Bool.not_true,cond_f,Bool.true_and]
       cases hx:c.words_ with
       | nil=>rfl
       | cons u r=>
         rw[hx]at hws ht
         rw[List.all_cons,Bool.and_eq_true]at hws
         have hu:=ht u (by simp)
         rw[show decide ((u::r).length=0)=false from decide_eq_false (by simp),cond_f,lidx_0,Option.bind_some,headKw,Bool.false_or]
         by_cases h4:u.kind_=4
         ·have h1:=rW_join hws.1 h4
          cases hy:u.words_ with
          | nil=>rw[hy]at h1;simp at h1
          | cons y s=>
            rw[decide_eq_true h4,cond_t,cond_t,lidx_0,Option.bind_some,F213_j1_is _ _ _ _ _ (hu.2 y (by rw[hy];simp))]
            rfl
         ·rw[decide_eq_false h4,cond_f,cond_f,F213_j1_is _ _ _ _ _ hu.1]
          rfl
theorem F182_is(w98 w182:Cmd→Option Bool)(w260:Word→Option Bool)(c:Cmd)(hn:c.name_.length≤1000000)(hl:c.words_.length+c.redirs_.length≤1000000)(hl2:c.kids_.length≤1000000)
 (hw:∀x∈c.words_,F234 w260 x=some (rW x)) (hr:∀x∈c.redirs_,F237 w260 x=some (rR x)) (ht:∀x∈c.words_,x.text_.length≤1000000∧∀y∈x.words_,y.text_.length≤1000000)
 (h182:∀x∈c.kids_,w182 x=some (lvl 1 x.kind_&&rC x)) (h64:∀x∈c.kids_,F64 w98 x=some (lvl 4 x.kind_&&rC x)) (h210:∀x∈c.kids_,F210 w98 x=some ((decide (x.kind_=12)&&decide (x.redirs_.length=0))&&rC x)) (h212:∀x∈c.kids_,F212 w98 w260 x=some (rCase x)):
 F182 w98 w182 w260 c=some (lvl 1 c.kind_&&rC c):=by
 rw[F182]
 simp only[cond_self]
 have g99:=fun n w r=>F99_is c n w r hn
 have g207:=F207_is w260 c.words_ (by omega) hw
 have g29:=F29_is w98 c.kids_ hl2 h64
 have g208:=F208_is w182 c.kids_ h182
 have iw1:decide ((c.words_.length:Int)=1)=decide (c.words_.length=1):=decide_eq_decide.2 (by omega)
 have ik0:decide ((c.kids_.length:Int)=0)=decide (c.kids_.length=0):=decide_eq_decide.2 (by omega)
 have ik2:decide ((c.kids_.length:Int)=2)=decide (c.kids_.length=2):=decide_eq_decide.2 (by omega)
 have iw0:decide (1≤(c.words_.length:Int))=decide (0<c.words_.length):=decide_eq_decide.2 (by omega)
 rw[iw1,ik0,ik2,iw0,g207,g29,g208]
 by_cases h2:c.kind_=2
 ·rw[decide_eq_true h2,cond_t,g99,Option.bind_some,rC_2 c h2,h2]
  show _=some (true&&_)
  cases shpB c true true false<;>cases decide (c.words_.length=1)<;>cases c.words_.all rW<;>cases decide (c.kids_.length=0)<;>cases oneB c.kids_<;>rfl
 rw[decide_eq_false h2,cond_f]
 cases h7:(decide (c.kind_=7)||(decide (c.kind_=13)||decide (c.kind_=9)))with
 | true=>
   simp only[Bool.or_eq_true,decide_eq_true_eq]at h7
   have hlv:lvl 1 c.kind_=true:=by rcases h7 with h|h|h<;>(rw[h];rfl)
   rw[cond_t,g99,Option.bind_some,rC_7 c h7,hlv]
   cases shpB c false false false<;>cases oneB c.kids_<;>rfl
 | false=>
 rw[cond_f]
 by_cases h12:c.kind_=12
 ·rw[decide_eq_true h12,cond_t,g99,Option.bind_some,F209_is w260 _ (by omega) hr,rC_12 c h12,h12]
  show _=some (true&&_)
  cases shpB c false false true<;>cases(c.kids_.all fun c=>lvl 4 c.kind_&&rC c)<;>cases c.redirs_.all rR<;>rfl
 rw[decide_eq_false h12,cond_f]
 cases h8:(decide (c.kind_=8)||decide (c.kind_=11))with
 | true=>
   simp only[Bool.or_eq_true,decide_eq_true_eq]at h8
   have hlv:lvl 1 c.kind_=true:=by rcases h8 with h|h<;>(rw[h];rfl)
   rw[cond_t,g99,Option.bind_some,rC_811 c h8,hlv,Bool.true_and]
   cases shpB c false false false with
   | false=>rfl
   | true=>
     rw[Bool.true_and,Bool.true_and]
     by_cases hk:c.kids_.length=2
     ·obtain⟨a,b,e⟩:=two hk
      rw[e]at h182 h210 ⊢
      show(some a).bind _=some (true&&rIf [a,b])
      rw[Option.bind_some]
      show(F210 w98 a).bind _=_
      rw[h210 a (by simp),Option.bind_some,rIf,rUp_all,List.all_cons,List.all_nil,Bool.and_true]
      cases((decide (a.kind_=12)&&decide (a.redirs_.length=0))&&rC a)with
      | false=>rfl
      | true=>
        show(some b).bind _=_
        rw[Option.bind_some]
        show(w182 b).bind _=_
        rw[h182 b (by simp)]
        rfl
     ·rw[decide_eq_false hk]
      rfl
 | false=>
 rw[cond_f]
 by_cases h10:c.kind_=10
 ·rw[decide_eq_true h10,cond_t,g99,Option.bind_some,rC_10 c h10,h10]
  show _=some (true&&_)
  cases shpB c true true false<;>cases c.words_.all rW<;>cases oneB c.kids_<;>rfl
 rw[decide_eq_false h10,cond_f]
 by_cases h17:c.kind_=17
 ·rw[decide_eq_true h17,cond_t,g99,Option.bind_some,rC_17 c h17,h17,F49x3_is w98 w260 _ hl2 h212]
  show _=some (true&&_)
  cases shpB c false true false<;>cases decide (c.words_.length=1)<;>cases c.words_.all rW<;>cases c.kids_.all rCase<;>rfl
 rw[decide_eq_false h17,cond_f]
 by_cases h15:c.kind_=15
 ·rw[decide_eq_true h15,cond_t,g99,Option.bind_some,rC_15 c h15,h15]
  show _=some (true&&_)
  cases shpB c true false false<;>cases(c.kids_.all fun c=>lvl 4 c.kind_&&rC c)<;>rfl
 rw[decide_eq_false h15,cond_f]
 by_cases h16:c.kind_=16
 ·rw[decide_eq_true h16,cond_t,g99,Option.bind_some,rC_16 c h16,h16]
  show _=some (true&&_)
  cases shpB c false true false<;>cases decide (0<c.words_.length)<;>cases decide (c.kids_.length=0)<;>cases c.words_.all rW<;>rfl
 rw[decide_eq_false h16,cond_f]
 by_cases h1:c.kind_=1
 ·rw[decide_eq_true h1,cond_t,g99,Option.bind_some,rC_1 c h1,h1,F213_is w260 c hl hw hr ht]
  have e:shpB c false true true=decide (c.name_=[]):=by
   rw[shpB]
   cases decide (c.name_=[])<;>cases decide (c.words_.length=0)<;>cases decide (c.redirs_.length=0)<;>rfl
  rw[e]
  show _=some (true&&_)
  cases decide (c.name_=[])<;>cases decide (c.kids_.length=0)<;>rfl
 rw[decide_eq_false h1,cond_f]
 have hlv:lvl 1 c.kind_=false:=by
  simp only[Bool.or_eq_false_iff,decide_eq_false_iff_not]at h7 h8
  rw[lvl,lev,decide_eq_false h1,decide_eq_false h2,decide_eq_false h7.1,decide_eq_false h8.1,decide_eq_false h7.2.2,decide_eq_false h10,decide_eq_false h8.2,decide_eq_false h12,decide_eq_false h7.2.1,decide_eq_false h15,decide_eq_false h16,decide_eq_false h17]
  cases decide (c.kind_=3)<;>cases(decide (c.kind_=5)||decide (c.kind_=6))<;>cases decide (c.kind_=14)<;>rfl
 rw[hlv]
 rfl
theorem pright_is:∀n:Nat,(∀w:Word,2 * nW w<n→nW w≤2000→smW w→K260 n w=some (!decide (w.kind_=4)&&rW w))∧(∀c:Cmd,2 * nC c<n→nC c≤2000→smC c→K182 n c=some (lvl 1 c.kind_&&rC c))∧
 (∀c:Cmd,2 * nC c+1<n→nC c≤2000→smC c→K98 n c=some (lvl 3 c.kind_&&rC c))
 | 0=>⟨fun _ h=>by omega,fun _ h=>by omega,fun _ h=>by omega⟩
 | n+1=>by
   obtain⟨ihW,ihC,ihH⟩:=pright_is n
   have h234:∀x:Word,2 * nW x<n→nW x≤2000→smW x→F234 (K260 n) x=some (rW x):=fun x hx hb hs=>by
    have g1:=nW_eq x
    have g2:=nWs_len x.words_
    have g3:=hs
    rw[smW_eq]at g3
    exact F234_is _ x (by omega) (ihW x hx hb hs) (fun y hy=>ihW y (by have:=nW_mem hy;omega) (by have:=nW_mem hy;omega) (sm_mem g3.2.2.1 hy))
   have h64:∀x:Cmd,2 * nC x+1<n→nC x≤2000→smC x→F64 (K98 n) x=some (lvl 4 x.kind_&&rC x):=fun x hx hb hs=>by
    have g1:=nC_eq x
    have g3:=hs
    rw[smC_eq]at g3
    exact F64_is _ x (by omega) (ihH x hx hb hs) (fun y hy=>ihH y (by have:=nC_mem hy;omega) (by have:=nC_mem hy;omega) (smC_mem g3.2.2.2.2 hy))
   refine⟨fun w hn hb hs=>?_,fun c hn hb hs=>?_,fun c hn hb hs=>?_⟩
   ·show F260 (K98 n) (K260 n) w=_
    have h1:=nW_eq w
    have h2:=nWs_len w.words_
    have h3:=nCs_len w.cmd_
    rw[smW_eq]at hs
    exact F260_is _ _ w (by omega) (by omega) (by omega) (fun x hx=>h234 x (by have:=nW_mem hx;omega) (by have:=nW_mem hx;omega) (sm_mem hs.2.2.1 hx)) (fun x hx=>h64 x (by have:=nC_mem hx;omega) (by have:=nC_mem hx;omega) (smC_mem hs.2.2.2 hx))
   ·show F182 (K98 n) (K182 n) (K260 n) c=_
    have h1:=nC_eq c
    have h2:=nWs_len c.words_
    have h3:=nCs_len c.kids_
    have h4:=nRs_len c.redirs_
    rw[smC_eq]at hs
    obtain⟨s1,s2,s3,s4,s5⟩:=hs
    refine F182_is _ _ _ c (by omega) (by omega) (by omega) (fun x hx=>h234 x (by have:=nW_mem hx;omega) (by have:=nW_mem hx;omega) (sm_mem s3 hx)) (fun d hd=>?_) (fun x hx=>?_) (fun x hx=>ihC x (by have:=nC_mem hx;omega) (by have:=nC_mem hx;omega) (smC_mem s5 hx))
     (fun x hx=>h64 x (by have:=nC_mem hx;omega) (by have:=nC_mem hx;omega) (smC_mem s5 hx)) (fun x hx=>?_) (fun x hx=>?_)
    ·have g1:=nR_mem hd
     have g2:=nR_eq d
     have g6:=smR_mem s4 hd
     rw[smR_eq]at g6
     have g7:=g6
     rw[smW_eq]at g7
     exact F237_is _ d (h234 _ (by omega) (by omega) g6) (by omega) (by omega)
    ·have hx':=sm_mem s3 hx
     rw[smW_eq]at hx'
     refine⟨by omega,fun y hy=>?_⟩
     have hy':=sm_mem hx'.2.2.1 hy
     rw[smW_eq]at hy'
     omega
    ·have g1:=nC_mem hx
     have g2:=nC_eq x
     have g3:=nCs_len x.kids_
     have g5:=smC_mem s5 hx
     rw[smC_eq]at g5
     exact F210_is _ x (by omega) (by omega) (fun y hy=>h64 y (by have:=nC_mem hy;omega) (by have:=nC_mem hy;omega) (smC_mem g5.2.2.2.2 hy))
    ·have g1:=nC_mem hx
     have g2:=nC_eq x
     have g3:=nCs_len x.kids_
     have g4:=nWs_len x.words_
     have g5:=smC_mem s5 hx
     rw[smC_eq]at g5
     exact F212_is _ _ x (by omega) (by omega) (by omega) (fun y hy=>h64 y (by have:=nC_mem hy;omega) (by have:=nC_mem hy;omega) (smC_mem g5.2.2.2.2 hy)) (fun y hy=>h234 y (by have:=nW_mem hy;omega) (by have:=nW_mem hy;omega) (sm_mem g5.2.2.1 hy))
   ·show F98 (K98 n) (K182 n) c=_
    have h1:=nC_eq c
    have h3:=nCs_len c.kids_
    have hs':=hs
    rw[smC_eq]at hs
    obtain⟨s1,s2,s3,s4,s5⟩:=hs
    refine F98_is _ _ c (by omega) (by omega) (ihC c (by omega) hb hs') (fun x hx=>ihC x (by have:=nC_mem hx;omega) (by have:=nC_mem hx;omega) (smC_mem s5 hx)) (fun x hx=>ihH x (by have:=nC_mem hx;omega) (by have:=nC_mem hx;omega) (smC_mem s5 hx)) (fun x hx=>?_)
    have g1:=nC_mem hx
    have g2:=nC_eq x
    have g3:=nCs_len x.kids_
    have g5:=smC_mem s5 hx
    rw[smC_eq]at g5
    exact⟨by omega,by omega,fun y hy=>ihC y (by have:=nC_mem hy;omega) (by have:=nC_mem hy;omega) (smC_mem g5.2.2.2.2 hy)⟩
theorem F13_is(l:List Cmd)(hb:nCs l≤2000)(hs:smCs l):F13 l=some ((decide (szCs l≤1024)&&decide (dCs l≤32))&&l.all fun c=>lvl 4 c.kind_&&rC c):=by
 have hl:=nCs_len l
 rw[F13,F21_is l hb,Option.bind_some]
 exact guardO_and fun _=>F29_is _ l (by omega) (fun x hx=>by
  have g1:=nC_mem hx
  have g2:=nC_eq x
  have g5:=smC_mem hs hx
  have g6:=g5
  rw[smC_eq]at g6
  exact F64_is _ x (by omega) ((pright_is BIG).2.2 x (by unfold BIG;omega) (by omega) g5) (fun y hy=>(pright_is BIG).2.2 y (by have:=nC_mem hy;unfold BIG;omega) (by have:=nC_mem hy;omega) (smC_mem g6.2.2.2.2 hy)))
theorem plain_checks(l:List Cmd)(hok:okCs l)(hl:l.length≤maxLen):F4 l=some true:=by
 obtain⟨b,e,hb⟩:=F12_any l hok hl
 rw[F4,e,Option.bind_some,awake_true]
 cases b with
 | false=>rfl
 | true=>
   obtain⟨h1,h2⟩:=hb rfl
   rw[Bool.not_true,cond_f,F13_is l h1 h2,Option.bind_some,F14_is l h1 h2,Option.bind_some,beq_self_eq_true,guardO_t1,(size_is BIG).2 l (by unfold BIG;omega) h1,Option.bind_some,guardO_t1,(rsize_is BIG).2 l (by unfold BIG;omega) h1,Option.bind_some,decide_eq_true rfl]
   rfl
end Go.Abs.U48
set_option maxRecDepth 100000
namespace Go.Abs.U48
open Go Go.Proofs
theorem okWs_all:∀ {l:List Word},(∀x∈l,okW x)→okWs l
 | [],_=>by rw[okWs];trivial
 | x::r,h=>by rw[okWs];exact⟨h x (List.mem_cons_self ..),okWs_all fun y hy=>h y (List.mem_cons_of_mem _ hy)⟩
theorem okRs_all:∀ {l:List Redir},(∀x∈l,okR x)→okRs l
 | [],_=>by rw[okRs];trivial
 | x::r,h=>by rw[okRs];exact⟨h x (List.mem_cons_self ..),okRs_all fun y hy=>h y (List.mem_cons_of_mem _ hy)⟩
theorem okCs_all:∀ {l:List Cmd},(∀x∈l,okC x)→okCs l
 | [],_=>by rw[okCs];trivial
 | x::r,h=>by rw[okCs];exact⟨h x (List.mem_cons_self ..),okCs_all fun y hy=>h y (List.mem_cons_of_mem _ hy)⟩
theorem tyr:∀n:Nat,
 (∀p,Typed Tryz.prog n 49 p→∃x:Word,p=x.pv∧okW x)∧(∀p,Typed Tryz.prog n 36 p→∃x:Cmd,p=x.pv∧okC x)∧(∀p,Typed Tryz.prog n 51 p→∃x:Redir,p=x.pv∧okR x)∧
 (∀p,Typed Tryz.prog n 33 p→∃xs:List Word,p=.slice (xs.map Word.pv)∧xs.length≤maxLen∧okWs xs)∧(∀p,Typed Tryz.prog n 23 p→∃xs:List Cmd,p=.slice (xs.map Cmd.pv)∧xs.length≤maxLen∧okCs xs)∧(∀p,Typed Tryz.prog n 34 p→∃xs:List Redir,p=.slice (xs.map Redir.pv)∧xs.length≤maxLen∧okRs xs)
 | 0=>⟨fun p h=>h.elim,fun p h=>h.elim,fun p h=>h.elim,fun p h=>h.elim,fun p h=>h.elim,fun p h=>h.elim⟩
 | n+1=>by
   obtain⟨iW,iC,iR,iWs,iCs,iRs⟩:=tyr n
   refine⟨fun p h=>?_,fun p h=>?_,fun p h=>?_,fun p h=>?_,fun p h=>?_,fun p h=>?_⟩
   ·rw[Typed]at h
    simp only[Tryz.underlying49]at h
    obtain⟨qs,rfl,hl,hq⟩:=h
    match qs,hl with
    | [q0,q1,q2,q3,q4],_=>
      obtain⟨x0,rfl,_⟩:=ty_3 n (hq 0 _ q0 rfl rfl).mono
      obtain⟨x1,rfl,w1⟩:=ty_9 n (hq 1 _ q1 rfl rfl).mono
      obtain⟨x2,rfl,w2⟩:=ty_9 n (hq 2 _ q2 rfl rfl).mono
      obtain⟨x3,rfl,w3,w3'⟩:=iWs _ (hq 3 _ q3 rfl rfl)
      obtain⟨x4,rfl,w4,w4'⟩:=iCs _ (hq 4 _ q4 rfl rfl)
      exact⟨⟨x0,x1,x2,x3,x4⟩,by rw[Word.pv_eq];rfl,by rw[okW];exact⟨w1,w2,w3,w4,w3',w4'⟩⟩
   ·rw[Typed]at h
    simp only[Tryz.underlying36]at h
    obtain⟨qs,rfl,hl,hq⟩:=h
    match qs,hl with
    | [q0,q1,q2,q3,q4,q5],_=>
      obtain⟨x0,rfl,_⟩:=ty_3 n (hq 0 _ q0 rfl rfl).mono
      obtain⟨x1,rfl,_⟩:=ty_3 n (hq 1 _ q1 rfl rfl).mono
      obtain⟨x2,rfl,w2⟩:=ty_9 n (hq 2 _ q2 rfl rfl).mono
      obtain⟨x3,rfl,w3,w3'⟩:=iWs _ (hq 3 _ q3 rfl rfl)
      obtain⟨x4,rfl,w4,w4'⟩:=iRs _ (hq 4 _ q4 rfl rfl)
      obtain⟨x5,rfl,w5,w5'⟩:=iCs _ (hq 5 _ q5 rfl rfl)
      exact⟨⟨x0,x1,x2,x3,x4,x5⟩,by rw[Cmd.pv_eq];rfl,by rw[okC];exact⟨w2,w3,w4,w5,w3',w4',w5'⟩⟩
   ·rw[Typed]at h
    simp only[Tryz.underlying51]at h
    obtain⟨qs,rfl,hl,hq⟩:=h
    match qs,hl with
    | [q0,q1,q2,q3,q4],_=>
      obtain⟨x0,rfl,_⟩:=ty_3 n (hq 0 _ q0 rfl rfl).mono
      obtain⟨x1,rfl,_⟩:=ty_3 n (hq 1 _ q1 rfl rfl).mono
      obtain⟨x2,rfl,_⟩:=ty_3 n (hq 2 _ q2 rfl rfl).mono
      obtain⟨x3,rfl,w3⟩:=iW _ (hq 3 _ q3 rfl rfl)
      obtain⟨x4,rfl,_⟩:=ty_4 n (hq 4 _ q4 rfl rfl).mono
      exact⟨⟨x0,x1,x2,x3,x4⟩,by rw[Redir.pv_eq,Word.pv_eq];rfl,by rw[okR];exact w3⟩
   ·rw[Typed]at h
    simp only[Tryz.underlying33]at h
    obtain⟨xs,rfl,hl,hx⟩:=h
    obtain⟨ys,rfl,hw⟩:=ex_map (f:=Word.pv) (W:=okW) fun x hm=>iW x (hx x hm).1
    exact⟨ys,rfl,by rw[List.length_map]at hl;exact hl,okWs_all hw⟩
   ·rw[Typed]at h
    simp only[Tryz.underlying23]at h
    obtain⟨xs,rfl,hl,hx⟩:=h
    obtain⟨ys,rfl,hw⟩:=ex_map (f:=Cmd.pv) (W:=okC) fun x hm=>iC x (hx x hm).1
    exact⟨ys,rfl,by rw[List.length_map]at hl;exact hl,okCs_all hw⟩
   ·rw[Typed]at h
    simp only[Tryz.underlying34]at h
    obtain⟨xs,rfl,hl,hx⟩:=h
    obtain⟨ys,rfl,hw⟩:=ex_map (f:=Redir.pv) (W:=okR) fun x hm=>iR x (hx x hm).1
    exact⟨ys,rfl,by rw[List.length_map]at hl;exact hl,okRs_all hw⟩
theorem tyr_23(n:Nat){p:PV}(h:Typed Tryz.prog n 23 p):∃x:List Cmd,p=.slice (List.map Cmd.pv x)∧x.length≤maxLen∧okCs x:=(tyr n).2.2.2.2.1 p h
end Go.Abs.U48
namespace Go.Abs.U48
open Go Go.Proofs
theorem law4(l:List Cmd)(w:l.length≤maxLen∧okCs l):F4 l=some true:=plain_checks l w.2 w.1
end Go.Abs.U48
