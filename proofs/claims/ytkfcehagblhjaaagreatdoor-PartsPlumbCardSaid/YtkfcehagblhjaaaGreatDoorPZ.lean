/- The plain law of PartsPlumb: what the walked code computes is true for every typed message; no condition. -/
import Derived.Test.YtkfcehagblhjaaaGreatDoorA39
import Derived.Test.YtkfcehagblhjaaaGreatDoorD1
import Derived.Test.YtkfcehagblhjaaaGreatDoorAK
import Derived.Test.YtkfcehagblhjaaaGreatDoorTY
set_option linter.unusedVariables false
set_option linter.unusedSimpArgs false
set_option linter.defProp false
namespace Go.Abs.U54
open Go Go.Proofs
theorem byte_back(c:UInt8):((c.toNat:Int)).toNat.toUInt8=c:=by
 show UInt8.ofNat ((c.toNat:Int).toNat)=c
 rw[Int.toNat_natCast,UInt8.ofNat_toNat]
theorem ib_m1(c:UInt8):∀st:Str,-1≤Lib.indexByte st c
 | []=>Int.le_refl _
 | x::r=>by
   have:=ib_m1 c r
   rw[Lib.indexByte]
   split
   ·decide
   split<;>omega
theorem ib_ge(c:UInt8):∀st:Str,decide (0≤Lib.indexByte st c)=st.contains c
 | []=>rfl
 | x::r=>by
   have ih:=ib_ge c r
   have h1:=ib_m1 c r
   rw[Lib.indexByte,List.contains_cons,←ih]
   by_cases h:x=c
   ·subst h
    simp
   have h2:(x==c)=false:=by simpa using h
   have h3:(c==x)=false:=by simpa using fun e=>h (Eq.symm e)
   rw[h2,h3]
   by_cases h4:Lib.indexByte r c=-1
   ·simp[h4]
   have h5:(Lib.indexByte r c==-1)=false:=by simpa using h4
   simp only[Bool.false_eq_true,if_false,h5,Bool.false_or]
   rw[Bool.eq_iff_iff,decide_eq_true_eq,decide_eq_true_eq]
   omega
def nin(st:Str)(c:UInt8):Bool:=!st.contains c
def unt(st s:Str):Nat:=(s.takeWhile (nin st)).length
theorem unt_le(st s:Str):unt st s≤s.length:=(List.takeWhile_prefix _).length_le
theorem unt_t{st:Str}{c:UInt8}(s:Str)(h:nin st c=true):unt st (c::s)=unt st s+1:=by
 unfold unt
 rw[List.takeWhile_cons,if_pos h,List.length_cons]
theorem unt_f{st:Str}{c:UInt8}(s:Str)(h:nin st c=false):unt st (c::s)=0:=by
 unfold unt
 rw[List.takeWhile_cons,if_neg (by simp[h])]
 rfl
theorem unt_app{st:Str}:∀ (a b:Str),(∀c∈a,nin st c=true)→(b=[]∨∃c r,b=c::r∧nin st c=false)→unt st (a++b)=a.length
 | [],b,_,h=>by
   rcases h with rfl|⟨c,r,rfl,h⟩
   ·rfl
   rw[List.nil_append,unt_f r h];rfl
 | x::a,b,h1,h=>by
   rw[List.cons_append,unt_t _ (h1 x (by simp)),unt_app a b (fun c hc=>h1 c (by simp[hc])) h]
   rfl
theorem unt_all{st s:Str}(h:unt st s=s.length):∀c∈s,nin st c=true:=by
 have:=List.takeWhile_prefix (p:=nin st) (l:=s)
 have h2:s.takeWhile (nin st)=s:=this.eq_of_length h
 intro c hc
 rw[←h2]at hc
 exact(List.all_eq_true.1 (List.all_takeWhile (p:=nin st) (l:=s))) c hc
theorem loop131(st:Str)(N:Int):∀ (s:Str) (i:Nat),((i+s.length:Nat):Int)=N→
 loopR (fun x i k=>(L_IndexByte st x).bind fun n=>bif decide (0≤n)then some i else k) (some N) (s.map B) i=some ((i+unt st s:Nat):Int)
 | [],i,h=>by
   rw[←h]
   rfl
 | c::r,i,h=>by
   rw[List.map_cons,loopR,L_IndexByte,B,byte_back]
   show(bif decide (0≤Lib.indexByte st c)then _ else _)=_
   rw[ib_ge]
   cases hc:st.contains c with
   | true=>
     rw[unt_f r (by simp only[nin,hc];rfl)]
     rfl
   | false=>
     rw[unt_t r (by simp only[nin,hc];rfl)]
     show loopR _ _ _ _=_
     have:=loop131 st N r (i+1) (by rw[←h];simp only[List.length_cons];congr 1;omega)
     rw[show i+(unt st r+1)=i+1+unt st r by omega]
     exact this
theorem F131_is{s:Str}(st:Str)(w:s.length≤maxLen):F131 s st=some ((unt st s:Nat):Int):=by
 unfold maxLen at w
 unfold F131
 rw[iter_rangeB (body:=F131_b1 s st) s (fun x i k=>(L_IndexByte st x).bind fun n=>bif decide (0≤n)then some i else k) (some (s.length:Int)) (fun _ _=>rfl) (by omega)]
 have:=loop131 st (s.length:Int) s 0 (by simp)
 rwa [Nat.zero_add]at this
theorem sslice_nat{s:Str}{a b:Nat}(h1:a≤b)(h2:b≤s.length):sslice s (a:Int) (b:Int)=some ((s.drop a).take (b-a)):=by
 unfold sslice
 rw[if_pos ⟨by omega,by omega,by omega⟩,Int.toNat_natCast,Int.toNat_natCast]
theorem sslice_pre(a b:Str):sslice (a++b) 0 (a.length:Int)=some a:=by
 have:=sslice_nat (s:=a++b) (a:=0) (b:=a.length) (Nat.zero_le _) (by simp)
 rw[show((0:Nat):Int)=0 from rfl]at this
 rw[this]
 simp
theorem sslice_suf(a b:Str):sslice (a++b) (a.length:Int) ((a++b).length:Int)=some b:=by
 rw[sslice_nat (by simp) (Nat.le_refl _)]
 simp
theorem F149_is(s p:Str):F149 s p=some (p.isPrefixOf s):=by
 unfold F149
 by_cases h:p.length≤s.length
 ·have h1:decide ((p.length:Int)≤(s.length:Int))=true:=decide_eq_true (by omega)
  rw[h1,show guardO true (sslice s 0 (p.length:Int))=sslice s 0 (p.length:Int) from rfl]
  have:=sslice_nat (s:=s) (a:=0) (b:=p.length) (Nat.zero_le _) h
  rw[show((0:Nat):Int)=0 from rfl]at this
  rw[this]
  simp only[Option.bind_some,Bool.true_and,List.drop_zero,Nat.sub_zero,Option.some.injEq]
  rw[Bool.eq_iff_iff,decide_eq_true_eq,List.isPrefixOf_iff_prefix,List.prefix_iff_eq_take]
  exact⟨fun e=>e.symm,fun e=>e.symm⟩
 have h1:decide ((p.length:Int)≤(s.length:Int))=false:=decide_eq_false (by omega)
 rw[h1]
 simp only[guardO,cond_f,Option.bind_some,Bool.false_and,Option.some.injEq]
 rw[Eq.comm,Bool.eq_false_iff]
 intro e
 exact h (List.isPrefixOf_iff_prefix.1 e).length_le
theorem F75_is(s p:Str):F75 s p=some (p.isPrefixOf s):=by
 unfold F75
 rw[F149_is]
 rfl
def strip:Str→Str
 | []=>[]
 | c::r=>if c=33 then r else c::r
theorem F227_is(s:Str):F227 s [33]=some (strip s):=by
 unfold F227 F277
 rw[F149_is]
 cases s with
 | nil=>rfl
 | cons c r=>
   simp only[Option.bind_some,List.isPrefixOf,Bool.and_true]
   by_cases h:c=33
   ·subst h
    have:=sslice_suf [33] r
    simp only[strip,if_true]
    show(bif (33==(33:UInt8))then _ else _:Option Str).bind _=_
    rw[show((33:UInt8)==33)=true from rfl,cond_t]
    show((sslice ([33]++r) ([(33:UInt8)].length:Int) (([33]++r).length:Int)).bind _).bind _=_
    rw[this]
    rfl
   have h2:((33:UInt8)==c)=false:=by simpa using fun e=>h (Eq.symm e)
   rw[h2,cond_f,strip,if_neg h]
   rfl
def badB(c:Int):Bool:=((((decide (c<97)||decide (122<c))&&(decide (c<48)||decide (57<c)))&&!decide (c=45))&&!decide (c=95))
theorem loop157:∀ (s:Str) (i:Int),loopR (fun x i k=>bif badB x then some false else k) (some true) (s.map B) i=some (s.all fun c=>!badB (B c))
 | [],_=>rfl
 | c::r,i=>by
   rw[List.map_cons,loopR,List.all_cons]
   cases badB (B c)with
   | true=>rfl
   | false=>exact loop157 r (i+1)
theorem F157_loop(s:Str)(w:s.length≤maxLen):iter (F157_b1 s) BIG 0=some (s.all fun c=>!badB (B c)):=by
 unfold maxLen at w
 rw[iter_rangeB (body:=F157_b1 s) s (fun x i k=>bif badB x then some false else k) (some true) (fun _ _=>rfl) (by omega),loop157]
theorem strip_len(s:Str):(strip s).length≤s.length:=by
 cases s with
 | nil=>exact Nat.le_refl _
 | cons c r=>
   rw[strip]
   split
   ·exact Nat.le_succ _
   exact Nat.le_refl _
theorem F157_tot(s:Str)(w:s.length≤maxLen):∃b,F157 s=some b∧(b=true→strip s≠[]∧(strip s).length≤32∧∀c∈strip s,badB (B c)=false):=by
 unfold F157
 rw[F227_is]
 simp only[Option.bind_some]
 have hl:=F157_loop (strip s) (Nat.le_trans (strip_len s) w)
 cases hs:strip s with
 | nil=>exact⟨false,rfl,fun h=>by cases h⟩
 | cons c r=>
   rw[hs]at hl
   rw[show sidx (c::r) 0=some (B c) from rfl]
   by_cases h:r.length+1≤32
   ·have h1:(decide ((c::r)=[])||decide (32<((c::r).length:Int)))=false:=by
     simp only[List.length_cons,reduceCtorEq,decide_false,Bool.false_or,decide_eq_false_iff_not]
     omega
    rw[h1]
    simp only[Bool.not_false,Bool.false_or]
    show ∃b,(bif _ then some false else iter (F157_b1 (c::r)) BIG 0)=some b∧_
    rw[hl]
    cases(decide (B c<97)||decide (122<B c))with
    | true=>exact⟨false,rfl,fun h=>by cases h⟩
    | false=>
      refine⟨_,rfl,fun h2=>⟨by simp,by simpa using h,fun x hx=>?_⟩⟩
      have:=List.all_eq_true.1 h2 x hx
      simpa using this
   have h1:(decide ((c::r)=[])||decide (32<((c::r).length:Int)))=true:=by
    simp only[List.length_cons,reduceCtorEq,decide_false,Bool.false_or,decide_eq_true_eq]
    omega
   rw[h1]
   exact⟨false,rfl,fun h=>by cases h⟩
end Go.Abs.U54
namespace Go.Abs.U54
open Go Go.Proofs
theorem loop207(x2 x3:Str)(x4:Bool):∀ (l:List Attr) (i:Int),∃n,loopR (fun u i k=>(F158 u x2 x3 x4).bind fun r=>bif r then some i else k) (some (-1)) l i=some n
 | [],_=>⟨_,rfl⟩
 | u::r,i=>by
   rw[loopR]
   simp only[F158,Option.bind_some]
   cases decide (u.name_=x2)with
   | true=>exact⟨_,rfl⟩
   | false=>exact loop207 x2 x3 x4 r (i+1)
theorem F129_tot{l:List Attr}(w:l.length≤maxLen)(x2 x3:Str)(x4:Bool):∃b,F129 l x2 x3 x4=some b:=by
 unfold maxLen at w
 obtain⟨n,hn⟩:=loop207 x2 x3 x4 l 0
 unfold F129 F207
 rw[iter_range (body:=F207_b1 l x2 x3 x4) l (fun u i k=>(F158 u x2 x3 x4).bind fun r=>bif r then some i else k) (some (-1)) (fun _ _=>rfl) (by omega),hn]
 exact⟨_,rfl⟩
structure OKa(a:Attr):Prop where
 ne:strip a.name_≠[]
 nl:(strip a.name_).length≤32
 nm:∀c∈strip a.name_,badB (B c)=false
 v:unt [0,10,13] a.value_=a.value_.length
 vl:a.value_.length≤1024
def Wa(a:Attr):Prop:=a.name_.length≤maxLen∧a.value_.length≤maxLen
theorem F86_tot{b:List Attr}{a:Attr}(wb:b.length≤maxLen)(w:Wa a):∃e,F86 b a=some e∧(e=0→OKa a∧b.length<32):=by
 unfold F86
 by_cases h:32≤b.length
 ·rw[decide_eq_true (by omega),cond_t]
  exact⟨22,rfl,fun h=>by cases h⟩
 rw[decide_eq_false (by omega),cond_f]
 obtain⟨n,hn,hn2⟩:=F157_tot a.name_ w.1
 rw[hn]
 simp only[Option.bind_some]
 cases n with
 | false=>exact⟨6,rfl,fun h=>by cases h⟩
 | true=>
   rw[show(!true)=false from rfl,cond_f]
   cases(a.query_&&!decide (a.value_=[]))with
   | true=>exact⟨2,rfl,fun h=>by cases h⟩
   | false=>
     rw[cond_f,F131_is _ w.2]
     simp only[Option.bind_some]
     have hu:=unt_le [0,10,13] a.value_
     by_cases h2:unt [0,10,13] a.value_<a.value_.length
     ·rw[decide_eq_true (by omega),cond_t]
      exact⟨2,rfl,fun h=>by cases h⟩
     rw[decide_eq_false (by omega),cond_f]
     by_cases h3:1024<a.value_.length
     ·rw[decide_eq_true (by omega),cond_t]
      exact⟨4,rfl,fun h=>by cases h⟩
     rw[decide_eq_false (by omega),cond_f]
     obtain⟨r,hr⟩:=F129_tot wb a.name_ a.value_ a.query_
     rw[hr]
     simp only[Option.bind_some]
     obtain⟨i1,i2,i3⟩:=hn2 rfl
     cases r with
     | true=>exact⟨7,rfl,fun h=>by cases h⟩
     | false=>exact⟨0,rfl,fun _=>⟨⟨i1,i2,i3,by omega,by omega⟩,by omega⟩⟩
def goL:List Attr→List Attr→Option Int
 | _,[]=>some 0
 | b,a::r=>(F86 b a).bind fun e=>bif !decide (e=0)then some e else goL (b++[a]) r
theorem lslice_take{α:Type}(l:List α){j:Nat}(h:j≤l.length):lslice l 0 (j:Int)=some (l.take j):=by
 unfold lslice
 rw[if_pos ⟨by omega,by omega,by omega⟩]
 simp
theorem take_at{α:Type}{l:List α}{j:Nat}(h:j<l.length):l.take j++[l[j]]=l.take (j+1):=by
 rw[List.take_succ_eq_append_getElem h]
theorem F60_is(l:List Attr)(w:l.length≤maxLen):F60 l=goL [] l:=by
 unfold maxLen at w
 have h:∀ (n j:Nat),j≤l.length→l.length-j<n→iter (F60_b1 l) n (j:Int)=goL (l.take j) (l.drop j):=by
  intro n
  induction n with
  | zero=>intro j _ h;omega
  | succ n ih=>
    intro j hj hn
    show F60_b1 l (iter (F60_b1 l) n) j=_
    rw[F60_b1]
    by_cases hlt:j<l.length
    ·rw[decide_eq_true (by omega),lidx_at hlt,drop_at hlt,goL,lslice_take l hj,wrap64 (by omega) (by omega)]
     simp only[cond_t,Option.bind_some]
     have:=ih (j+1) (by omega) (by omega)
     rw[take_at hlt]
     rw[show((j:Int)+1)=((j+1:Nat):Int) from rfl,this]
    rw[decide_eq_false (by omega),List.drop_eq_nil_of_le (by omega)]
    rfl
 exact h BIG 0 (Nat.zero_le _) (by unfold BIG;omega)
theorem goL_tot:∀ (l b:List Attr),b.length+l.length≤maxLen→(∀a∈l,Wa a)→∃e,goL b l=some e∧(e=0→(∀a∈l,OKa a)∧(l=[]∨b.length+l.length≤32))
 | [],b,_,_=>⟨0,rfl,fun _=>⟨fun a h=>(List.not_mem_nil h).elim,.inl rfl⟩⟩
 | a::r,b,w,wa=>by
   simp only[List.length_cons]at w
   obtain⟨e,he,h0⟩:=F86_tot (b:=b) (a:=a) (by omega) (wa a (by simp))
   rw[goL,he]
   simp only[Option.bind_some]
   by_cases h:e=0
   ·subst h
    obtain⟨h1,h2⟩:=h0 rfl
    obtain⟨e2,he2,h3⟩:=goL_tot r (b++[a]) (by simp only[List.length_append,List.length_cons,List.length_nil];omega) (fun x hx=>wa x (by simp[hx]))
    refine⟨e2,he2,fun h4=>?_⟩
    obtain⟨h5,h6⟩:=h3 h4
    refine⟨fun x hx=>?_,.inr ?_⟩
    ·rcases List.mem_cons.1 hx with rfl|hx
     ·exact h1
     exact h5 x hx
    rcases h6 with rfl|h6
    ·simp only[List.length_cons,List.length_nil];omega
    simp only[List.length_append,List.length_cons,List.length_nil]at h6 ⊢;omega
   rw[decide_eq_false h]
   exact⟨e,rfl,fun h2=>absurd h2 h⟩
theorem loop61:∀ (l:List Attr) (i:Nat),∃n,loopR (fun u i k=>(F130 u).bind fun r=>bif r then some i else k) (some (-1)) l i=some n∧(n<0→∀a∈l,a.query_=false)
 | [],_=>⟨_,rfl,fun _ a h=>(List.not_mem_nil h).elim⟩
 | u::r,i=>by
   rw[loopR]
   simp only[F130,Option.bind_some]
   cases h:u.query_ with
   | true=>exact⟨_,rfl,fun h=>by omega⟩
   | false=>
     obtain⟨n,h1,h2⟩:=loop61 r (i+1)
     refine⟨n,h1,fun h3 a ha=>?_⟩
     rcases List.mem_cons.1 ha with rfl|ha
     ·exact h
     exact h2 h3 a ha
theorem F61_tot{l:List Attr}(w:l.length≤maxLen):∃b,F61 l=some b∧(b=false→∀a∈l,a.query_=false):=by
 unfold maxLen at w
 obtain⟨n,hn,h⟩:=loop61 l 0
 unfold F61 F129x1 F207x1
 rw[iter_range (body:=F207x1_b1 l) l (fun u i k=>(F130 u).bind fun r=>bif r then some i else k) (some (-1)) (fun _ _=>rfl) (by omega)]
 rw[show((0:Nat):Int)=0 from rfl]at hn
 rw[hn]
 refine⟨_,rfl,fun h2=>h ?_⟩
 have:=of_decide_eq_false h2
 omega
theorem contains_one(s:Str)(c:UInt8):Lib.contains s [c]=s.contains c:=by
 unfold Lib.contains
 rw[Lib.index_one,ib_ge]
theorem L_SC{s:Str}(c:UInt8)(h:s.length≤4294967280):L_SContains s [c]=some (s.contains c):=by
 unfold L_SContains
 rw[if_pos (by omega),contains_one]
structure OKm(m:Plumb):Prop where
 t:∀s∈[m.src_,m.dst_,m.dir_,m.type_],s.length≤1024∧(10:UInt8)∉s
 go:goL [] m.attrs_=some 0
 a:∀a∈m.attrs_,OKa a
 al:m.attrs_.length≤32
 q:∀a∈m.attrs_,a.query_=false
 d:m.data_.length≤65536
def Wm(m:Plumb):Prop:=m.attrs_.length≤maxLen∧(∀a∈m.attrs_,Wa a)∧m.data_.length≤maxLen
theorem loop19(fin:Option Int)(P:Prop)(hf:∃e,fin=some e∧(e=0→P)):∀ (l:List Str) (i:Int),∃e,loopR (fun w i k=>bif decide (1024<(w.length:Int))then some 4 else(L_SContains w [10]).bind fun ok=>bif ok then some 2 else k) fin l i=some e∧(e=0→(∀s∈l,s.length≤1024∧(10:UInt8)∉s)∧P)
 | [],i=>by
   obtain⟨e,h1,h2⟩:=hf
   exact⟨e,h1,fun h=>⟨fun s hs=>(List.not_mem_nil hs).elim,h2 h⟩⟩
 | w::r,i=>by
   rw[loopR]
   by_cases h:1024<w.length
   ·rw[decide_eq_true (by omega),cond_t]
    exact⟨4,rfl,fun h=>by cases h⟩
   rw[decide_eq_false (by omega),cond_f,L_SC 10 (by omega)]
   simp only[Option.bind_some]
   cases hc:w.contains (10:UInt8)with
   | true=>exact⟨2,rfl,fun h=>by cases h⟩
   | false=>
     obtain⟨e,h1,h2⟩:=loop19 fin P hf r (i+1)
     refine⟨e,h1,fun h3=>⟨fun s hs=>?_,(h2 h3).2⟩⟩
     rcases List.mem_cons.1 hs with rfl|hs
     ·exact⟨by omega,by simpa using hc⟩
     exact(h2 h3).1 s hs
def fin19(m:Plumb):Option Int:=(F60 m.attrs_).bind fun r16=>bif !decide (r16=0)then some r16 else(F61 m.attrs_).bind fun r20=>bif r20 then some 2 else bif decide (65536<(m.data_.length:Int))then some 4 else some 0
theorem F19_tot{m:Plumb}(w:Wm m):∃e,F19 m=some e∧(e=0→OKm m):=by
 obtain⟨w1,w2,w3⟩:=w
 unfold F19
 rw[iter_range (body:=F19_b1 m) [m.src_,m.dst_,m.dir_,m.type_] (fun w i k=>bif decide (1024<(w.length:Int))then some 4 else(L_SContains w [10]).bind fun ok=>bif ok then some 2 else k)
  (fin19 m) (fun _ _=>rfl) (by simp)]
 obtain⟨e,h1,h2⟩:=loop19 (fin19 m) ((goL [] m.attrs_=some 0∧(∀a∈m.attrs_,OKa a)∧m.attrs_.length≤32)∧(∀a∈m.attrs_,a.query_=false)∧m.data_.length≤65536) (by
  obtain⟨e,he,h0⟩:=goL_tot m.attrs_ [] (by simpa using w1) w2
  rw[fin19,F60_is _ w1,he]
  simp only[Option.bind_some]
  by_cases h:e=0
  ·subst h
   obtain⟨q,hq,hq2⟩:=F61_tot w1
   rw[hq]
   simp only[decide_true,Bool.not_true,cond_f,Option.bind_some]
   cases q with
   | true=>exact⟨2,rfl,fun h=>by cases h⟩
   | false=>
     rw[cond_f]
     by_cases h3:65536<m.data_.length
     ·rw[decide_eq_true (by omega),cond_t]
      exact⟨4,rfl,fun h=>by cases h⟩
     rw[decide_eq_false (by omega),cond_f]
     obtain⟨g1,g2⟩:=h0 rfl
     refine⟨0,rfl,fun _=>⟨⟨trivial,g1,?_⟩,hq2 rfl,by omega⟩⟩
     rcases g2 with g2|g2
     ·rw[g2];exact Nat.zero_le _
     simpa using g2
  rw[decide_eq_false h]
  exact⟨e,rfl,fun h2=>absurd h2 h⟩) [m.src_,m.dst_,m.dir_,m.type_] 0
 exact⟨e,h1,fun h3=>by
  obtain⟨g1,⟨g2,g3,g4⟩,g5,g6⟩:=h2 h3
  exact⟨g1,g2,g3,g4,g5,g6⟩⟩
theorem F19_ok{m:Plumb}(w:Wm m)(h:OKm m):F19 m=some 0:=by
 obtain⟨w1,w2,w3⟩:=w
 unfold F19
 rw[iter_range (body:=F19_b1 m) [m.src_,m.dst_,m.dir_,m.type_] (fun w i k=>bif decide (1024<(w.length:Int))then some 4 else(L_SContains w [10]).bind fun ok=>bif ok then some 2 else k)
  (fin19 m) (fun _ _=>rfl) (by simp)]
 have step:∀ (l:List Str) (i:Int) (fin:Option Int),(∀s∈l,s.length≤1024∧(10:UInt8)∉s)→loopR (fun w i k=>bif decide (1024<(w.length:Int))then some 4 else(L_SContains w [10]).bind fun ok=>bif ok then some 2 else k) fin l i=fin:=by
  intro l
  induction l with
  | nil=>intro i fin _;rfl
  | cons w r ih=>
    intro i fin hl
    obtain⟨h1,h2⟩:=hl w (by simp)
    rw[loopR,decide_eq_false (by omega),cond_f,L_SC 10 (by omega)]
    have h3:w.contains (10:UInt8)=false:=by simpa using h2
    rw[h3]
    exact ih (i+1) fin (fun s hs=>hl s (by simp[hs]))
 rw[step _ _ _ h.t,fin19,F60_is _ w1,h.go]
 obtain⟨q,hq,hq2⟩:=F61_tot w1
 have:q=false:=by
  cases q with
  | false=>rfl
  | true=>
    exfalso
    have hn:∀ (l:List Attr) (i:Nat),(∀a∈l,a.query_=false)→loopR (fun u i k=>(F130 u).bind fun r=>bif r then some i else k) (some (-1)) l i=some (-1):=by
     intro l
     induction l with
     | nil=>intro i _;rfl
     | cons u r ih=>
       intro i hl
       rw[loopR]
       simp only[F130,Option.bind_some,hl u (by simp),cond_f]
       exact ih (i+1) (fun a ha=>hl a (by simp[ha]))
    unfold maxLen at w1
    unfold F61 F129x1 F207x1 at hq
    rw[iter_range (body:=F207x1_b1 m.attrs_) m.attrs_ (fun u i k=>(F130 u).bind fun r=>bif r then some i else k) (some (-1)) (fun _ _=>rfl) (by omega)]at hq
    have h0:=hn m.attrs_ 0 h.q
    rw[show((0:Nat):Int)=0 from rfl]at h0
    rw[h0]at hq
    exact absurd hq (by decide)
 rw[hq,this]
 simp only[Option.bind_some,decide_true,Bool.not_true,cond_f]
 rw[decide_eq_false (by have:=h.d;omega)]
 rfl
end Go.Abs.U54
namespace Go.Abs.U54
open Go Go.Proofs
def dbl(s:Str):Str:=s.flatMap fun x=>if x=39 then[39,39]else[x]
theorem dbl_q(r:Str):dbl (39::r)=39::39::dbl r:=rfl
theorem dbl_n{c:UInt8}(r:Str)(h:c≠39):dbl (c::r)=c::dbl r:=by
 unfold dbl
 rw[List.flatMap_cons,if_neg h]
 rfl
theorem dbl_len:∀s:Str,(dbl s).length≤2 * s.length
 | []=>Nat.le_refl _
 | c::r=>by
   have:=dbl_len r
   by_cases h:c=39
   ·subst h
    rw[dbl_q]
    simp only[List.length_cons]
    omega
   rw[dbl_n r h]
   simp only[List.length_cons]
   omega
theorem replaceK_one(c:UInt8)(new:Str):∀s:Str,Lib.replaceK [c] new (Lib.count s [c]) s=s.flatMap fun x=>if x=c then new else[x]
 | []=>by
   have:Lib.count [] [c]=0:=by rw[Lib.count_one];rfl
   rw[this]
   rfl
 | x::s=>by
   have ih:=replaceK_one c new s
   rw[List.flatMap_cons,←ih]
   by_cases hx:x=c
   ·subst hx
    rw[Lib.count_cons_eq,Nat.add_comm,Lib.replaceK_hit [x] new _ (x::s) 0 (by rw[Lib.index_one];simp[Lib.indexByte])]
    simp
   rw[Lib.count_cons_ne x c s hx,if_neg hx]
   cases hk:Lib.count s [c]with
   | zero=>rfl
   | succ k=>
     obtain⟨i,hi⟩:=Lib.index_of_count (s:=s) (old:=[c]) (by omega)
     have h1:Lib.index (x::s) [c]=((i+1:Nat):Int):=by
      rw[Lib.index_one]at hi ⊢
      simp only[Lib.indexByte]
      rw[if_neg (by simpa using hx),if_neg (by rw[hi];simp),hi]
      simp
     rw[Lib.replaceK_hit [c] new k (x::s) (i+1) h1,Lib.replaceK_hit [c] new k s i hi]
     simp
theorem L_ReplaceAll_eq{s:Str}(hs:s.length≤2147483647):L_ReplaceAll s [39] [39,39]=some (dbl s):=by
 have hc:Lib.countB ⟨⟨s⟩⟩ ⟨⟨[39]⟩⟩≤s.length:=Lib.countB_le ⟨⟨[39]⟩⟩ (by decide) s.length ⟨⟨s⟩⟩ (Nat.le_refl _)
 unfold L_ReplaceAll
 rw[if_pos ⟨by omega,by decide,by simp only[List.length_cons,List.length_nil];omega⟩]
 have:Lib.replaceAll s [39] [39,39]=Lib.replaceK [39] [39,39] (Lib.count s [39]) s:=rfl
 rw[this,replaceK_one]
 rfl
def bare(v:Str):Bool:=!decide (v=[])&&decide ((unt [32,9,39] v:Int)=(v.length:Int))
def qt(v:Str):Str:=bif bare v then v else 39::(dbl v++[39])
theorem qt_len(v:Str):(qt v).length≤2 * v.length+2:=by
 unfold qt
 cases bare v with
 | true=>simp only[cond_t];omega
 | false=>
   have:=dbl_len v
   simp only[cond_f,List.length_cons,List.length_append,List.length_nil]
   omega
theorem F62_is{v:Str}(h:v.length≤1024):F62 v=some (qt v):=by
 have hd:=dbl_len v
 have key:((L_ReplaceAll v [39] [39,39]).bind fun t7=>(catO [39] t7).bind fun s10=>(catO s10 [39]).bind fun s13=>some s13)=some (39::(dbl v++[39])):=by
  rw[L_ReplaceAll_eq (by omega)]
  simp only[Option.bind_some]
  rw[catO_eq (by simp only[List.length_cons,List.length_nil];omega)]
  simp only[Option.bind_some]
  rw[catO_eq (by simp only[List.length_cons,List.length_nil,List.length_append];omega)]
  rfl
 unfold F62 qt bare
 cases v with
 | nil=>exact key
 | cons c r=>
   have e:decide ((c::r)=[])=false:=rfl
   rw[e,show guardO (!false) (F131 (c::r) [32,9,39])=F131 (c::r) [32,9,39] from rfl,F131_is _ (by unfold maxLen;omega)]
   simp only[Option.bind_some,Bool.not_false,Bool.true_and]
   cases decide (((unt [32,9,39] (c::r):Nat):Int)=((c::r).length:Int))with
   | true=>rfl
   | false=>exact key
def wd(a:Attr):Str:=a.name_++61::qt a.value_
def tl:List Attr→Str
 | []=>[]
 | b::r=>32::(wd b++tl r)
def tx:List Attr→Str
 | []=>[]
 | a::r=>wd a++tl r
theorem tl_join:∀r:List Attr,Lib.joinTail [32] (r.map wd)=tl r
 | []=>rfl
 | b::r=>by
   have:=tl_join r
   unfold Lib.joinTail at this ⊢
   rw[List.map_cons,List.map_cons,List.flatten_cons,this]
   rfl
theorem tx_join(l:List Attr):Lib.join (l.map wd) [32]=tx l:=by
 cases l with
 | nil=>rfl
 | cons a r=>rw[List.map_cons,Lib.join_cons,tl_join];rfl
theorem name_ok{a:Attr}(h:OKa a):a.name_≠[]∧a.name_.length≤33∧∀c∈a.name_,badB (B c)=false∨c=33:=by
 obtain⟨h1,h2,h3,_,_⟩:=h
 cases hn:a.name_ with
 | nil=>rw[hn]at h1;exact absurd rfl h1
 | cons c r=>
   rw[hn,strip]at h1 h2 h3
   by_cases hc:c=33
   ·rw[if_pos hc]at h1 h2 h3
    refine⟨by simp,by simpa using h2,fun x hx=>?_⟩
    rcases List.mem_cons.1 hx with rfl|hx
    ·exact .inr hc
    exact .inl (h3 x hx)
   rw[if_neg hc]at h1 h2 h3
   exact⟨by simp,by omega,fun x hx=>.inl (h3 x hx)⟩
theorem good_nin{c:UInt8}(h:badB (B c)=false∨c=33):nin [32,9,61,63,39] c=true∧c≠10:=by
 constructor
 ·unfold nin
  cases hc:([32,9,61,63,39]:Str).contains c with
  | false=>rfl
  | true=>
    exfalso
    have:=List.contains_iff_mem.1 hc
    simp only[List.mem_cons,List.not_mem_nil,or_false]at this
    rcases this with rfl|rfl|rfl|rfl|rfl<;>rcases h with h|h<;>first|exact absurd h (by decide)|(revert h;decide)
 rintro rfl
 rcases h with h|h<;>revert h<;>decide
theorem wd_len{a:Attr}(h:OKa a):(wd a).length≤2084:=by
 have h1:=(name_ok h).2.1
 have h2:=qt_len a.value_
 have h3:=h.vl
 unfold wd
 simp only[List.length_append,List.length_cons]
 omega
theorem tl_len:∀r:List Attr,(∀a∈r,OKa a)→(tl r).length≤r.length * 2085
 | [],_=>Nat.le_refl _
 | b::r,h=>by
   have h1:=wd_len (h b (by simp))
   have h2:=tl_len r (fun a ha=>h a (by simp[ha]))
   simp only[tl,List.length_cons,List.length_append]
   omega
theorem tx_len(l:List Attr)(h:∀a∈l,OKa a):(tx l).length≤l.length * 2085:=by
 cases l with
 | nil=>exact Nat.le_refl _
 | cons a r=>
   have h1:=wd_len (h a (by simp))
   have h2:=tl_len r (fun a ha=>h a (by simp[ha]))
   simp only[tx,List.length_cons,List.length_append]
   omega
theorem appO_eq{α:Type}{z:Nat}{xs ys:List α}(h:(xs.length+ys.length) * z≤140737488355328):appO z xs ys=some (xs++ys):=if_pos h
theorem loop20(fin:List Str→Option (Str×Int)):∀ (l:List Attr) (s:List Str) (i:Int),s.length+l.length≤1000→(∀a∈l,OKa a∧a.query_=false)→
 loopS (fun(u:Attr) i (k:List Str→Option (Str×Int)) s=>bif u.query_ then none else(catO u.name_ [61]).bind fun s21=>(F62 u.value_).bind fun r24=>(catO s21 r24).bind fun s27=>(appO 16 s [s27]).bind fun out30=>k out30) fin l i s=fin (s++l.map wd)
 | [],s,i,_,_=>by rw[loopS,List.map_nil,List.append_nil]
 | u::r,s,i,hl,h=>by
   obtain⟨h1,h2⟩:=h u (by simp)
   have hn:=(name_ok h1).2.1
   have hq:=qt_len u.value_
   have hv:=h1.vl
   simp only[List.length_cons]at hl
   rw[loopS,h2,cond_f,catO_eq (by simp only[List.length_cons,List.length_nil];omega)]
   simp only[Option.bind_some]
   rw[F62_is hv]
   simp only[Option.bind_some]
   rw[catO_eq (by simp only[List.length_append,List.length_cons,List.length_nil];omega)]
   simp only[Option.bind_some]
   rw[appO_eq (by simp only[List.length_cons,List.length_nil];omega)]
   simp only[Option.bind_some]
   rw[loop20 fin r _ _ (by simp only[List.length_append,List.length_cons,List.length_nil];omega) (fun a ha=>h a (by simp[ha]))]
   rw[List.append_assoc,List.map_cons]
   rw[show u.name_++[61]++qt u.value_=wd u by rw[wd,List.append_assoc];rfl]
   rfl
theorem L_Join_eq{xs:List Str}{sep:Str}(h:(Lib.join xs sep).length≤100000000)(h2:xs.length≤100000):L_Join xs sep=some (Lib.join xs sep):=by
 unfold L_Join
 rw[if_pos ⟨by omega,by omega⟩]
theorem F20_is{l:List Attr}(go:goL [] l=some 0)(h:∀a∈l,OKa a∧a.query_=false)(hl:l.length≤32):F20 l=some (tx l,0):=by
 unfold F20
 rw[F60_is l (by unfold maxLen;omega),go]
 simp only[Option.bind_some,decide_true,Bool.not_true,cond_f]
 rw[show mkO 16 (l.length:Int)=some () from if_pos ⟨by omega,by omega⟩]
 simp only[Option.bind_some]
 rw[iter_rangeS (body:=F20_b1 l) l (fun(u:Attr) i (k:List Str→Option (Str×Int)) s=>bif u.query_ then none else(catO u.name_ [61]).bind fun s21=>(F62 u.value_).bind fun r24=>(catO s21 r24).bind fun s27=>(appO 16 s [s27]).bind fun out30=>k out30)
  (fun s=>(L_Join s [32]).bind fun s33=>some (s33,0)) (fun _ _ _=>rfl) (by omega)]
 rw[loop20 _ l [] 0 (by simp only[List.length_nil];omega) h,List.nil_append]
 have:=tx_len l (fun a ha=>(h a ha).1)
 rw[←tx_join l]at this ⊢
 rw[L_Join_eq (by omega) (by rw[List.length_map];omega)]
 rfl
theorem L_WB{b:Str}(c:UInt8)(h:b.length≤100000):L_WriteByte b (c.toNat:Int)=some (b++[c]):=by
 unfold L_WriteByte
 have:=UInt8.toNat_lt c
 rw[if_pos ⟨by omega,by omega,by omega⟩,byte_back]
theorem sidx_mid(a:Str)(c:UInt8)(b:Str):sidx (a++c::b) (a.length:Int)=some (c.toNat:Int):=by
 rw[sidx_nat]
 simp
theorem q39(c:UInt8):decide ((c.toNat:Int)=39)=decide (c=39):=byte_eq c 39
theorem loop156(rest:Str)(hr:rest=[]∨∃r,rest=32::r):∀ (q p pre:Str) (s:Str) (n:Nat),s=pre++(dbl q++39::rest)→s.length≤100000000→p.length+q.length≤100000→q.length<n→
 iter (F156_b1 s) n ((pre.length:Int),p)=some (p++q,((pre.length+(dbl q).length+1:Nat):Int),true)
 | q,p,pre,s,0,_,_,_,h=>absurd h (Nat.not_lt_zero _)
 | [],p,pre,s,n+1,hs,hl,hp,h=>by
   have hs':s=pre++39::rest:=hs
   show F156_b1 s (iter (F156_b1 s) n) ((pre.length:Int),p)=_
   rw[F156_b1]
   have hlen:s.length=pre.length+(rest.length+1):=by rw[hs'];simp
   rw[decide_eq_true (by omega:(pre.length:Int)<(s.length:Int)),cond_t,hs',sidx_mid]
   simp only[Option.bind_some]
   rw[show(!decide (((39:UInt8).toNat:Int)=39))=false from rfl,cond_f,←hs',wrap64 (by omega) (by omega)]
   have fin:(L_String p).bind (fun s23=>some (s23,(pre.length:Int)+1,true))=some (p++[],((pre.length+(dbl []).length+1:Nat):Int),true):=by
    rw[List.append_nil]
    rfl
   rcases hr with rfl|⟨r,rfl⟩
   ·have e:decide (((pre.length:Int)+1)=(s.length:Int))=true:=decide_eq_true (by simp only[List.length_nil]at hlen;omega)
    rw[e]
    exact fin
   have e:decide (((pre.length:Int)+1)=(s.length:Int))=false:=decide_eq_false (by simp only[List.length_cons]at hlen;omega)
   have e2:sidx s ((pre.length:Int)+1)=some ((32:UInt8).toNat:Int):=by
    have:=sidx_mid (pre++[39]) 32 r
    rw[List.append_assoc]at this
    rw[hs']
    simpa using this
   rw[e,show guardO (!false) (sidx s ((pre.length:Int)+1))=sidx s ((pre.length:Int)+1) from rfl,e2]
   exact fin
 | c::q,p,pre,s,n+1,hs,hl,hp,h=>by
   simp only[List.length_cons]at hp h
   show F156_b1 s (iter (F156_b1 s) n) ((pre.length:Int),p)=_
   rw[F156_b1]
   by_cases hc:c=39
   ·subst hc
    rw[dbl_q]at hs ⊢
    have hs':s=pre++39::(39::(dbl q++39::rest)):=hs
    have hlen:s.length=pre.length+((dbl q).length+(rest.length+1)+1+1):=by rw[hs'];simp<;>omega
    rw[decide_eq_true (by omega:(pre.length:Int)<(s.length:Int)),cond_t,hs',sidx_mid]
    simp only[Option.bind_some]
    rw[show(!decide (((39:UInt8).toNat:Int)=39))=false from rfl,cond_f,←hs',wrap64 (by omega) (by omega)]
    have e:decide (((pre.length:Int)+1)=(s.length:Int))=false:=decide_eq_false (by omega)
    have e2:sidx s ((pre.length:Int)+1)=some ((39:UInt8).toNat:Int):=by
     have:=sidx_mid (pre++[39]) 39 (dbl q++39::rest)
     rw[List.append_assoc]at this
     rw[hs']
     simpa using this
    rw[e,show guardO (!false) (sidx s ((pre.length:Int)+1))=sidx s ((pre.length:Int)+1) from rfl,e2]
    simp only[Option.bind_some]
    rw[show(false||!decide (((39:UInt8).toNat:Int)=39))=false from rfl,cond_f,show L_WriteByte p 39=L_WriteByte p ((39:UInt8).toNat:Int) from rfl,L_WB 39 (by omega)]
    simp only[Option.bind_some]
    rw[wrap64 (by omega) (by omega)]
    have ih:=loop156 rest hr q (p++[39]) (pre++[39,39]) s n (by rw[hs];simp) hl (by simp only[List.length_append,List.length_cons,List.length_nil];omega) (by omega)
    have e5:(((pre++[39,39]).length:Nat):Int)=(pre.length:Int)+1+1:=by simp<;>omega
    rw[e5]at ih
    rw[ih]
    simp only[List.length_append,List.length_cons,List.length_nil,List.append_assoc,List.cons_append,List.nil_append,Option.some.injEq,Prod.mk.injEq,and_true,true_and]
    omega
   rw[dbl_n q hc]at hs ⊢
   have hs':s=pre++c::(dbl q++39::rest):=hs
   have hlen:s.length=pre.length+((dbl q).length+(rest.length+1)+1):=by rw[hs'];simp<;>omega
   rw[decide_eq_true (by omega:(pre.length:Int)<(s.length:Int)),cond_t,hs',sidx_mid]
   simp only[Option.bind_some]
   rw[q39,decide_eq_false hc,show(!false)=true from rfl,cond_t,←hs',L_WB c (by omega)]
   simp only[Option.bind_some]
   rw[wrap64 (by omega) (by omega)]
   have ih:=loop156 rest hr q (p++[c]) (pre++[c]) s n (by rw[hs];simp) hl (by simp only[List.length_append,List.length_cons,List.length_nil];omega) (by omega)
   rw[show((pre++[c]).length:Int)=(pre.length:Int)+1 by simp]at ih
   rw[ih]
   simp only[List.length_append,List.length_cons,List.length_nil,List.append_assoc,List.cons_append,List.nil_append,Option.some.injEq,Prod.mk.injEq,and_true,true_and]
   omega
theorem F156_is{v rest:Str}(hr:rest=[]∨∃r,rest=32::r)(hv:v.length≤1024)(hl:rest.length≤1000000):F156 (dbl v++39::rest)=some (v,(((dbl v).length+1:Nat):Int),true):=by
 have hd:=dbl_len v
 unfold F156
 have:=loop156 rest hr v [] [] _ BIG rfl (by simp;omega) (by simp;omega) (by unfold BIG;omega)
 rw[show(([]:Str).length:Int)=0 from rfl]at this
 rw[show([]:Str)++(dbl v++39::rest)=dbl v++39::rest from rfl]at this
 rw[this]
 simp
end Go.Abs.U54
namespace Go.Abs.U54
open Go Go.Proofs
theorem j85{s t v:Str}{n:Nat}(h:n=s.length∨∃p r,s=p++32::r∧n=p.length):F85_j1 s t ((n:Int),v)=some (⟨t,v,false⟩,(n:Int),0):=by
 unfold F85_j1
 rcases h with h|⟨p,r,rfl,rfl⟩
 ·dsimp only
  rw[decide_eq_false (by omega:¬ (n:Int)<(s.length:Int))]
  rfl
 dsimp only
 rw[decide_eq_true (by simp;omega:(p.length:Int)<((p++32::r).length:Int)),sidx_mid]
 rfl
theorem bare_t{v:Str}(h:bare v=true):v≠[]∧∀c∈v,nin [32,9,39] c=true:=by
 unfold bare at h
 simp only[Bool.and_eq_true,Bool.not_eq_true',decide_eq_false_iff_not,decide_eq_true_eq]at h
 exact⟨h.1,unt_all (by omega)⟩
theorem nin_39{c:UInt8}(h:nin [32,9,39] c=true):c≠39∧nin [32,9] c=true:=by
 have h1:([32,9,39]:Str).contains c=false:=by simpa[nin]using h
 have h2:c∉([32,9,39]:Str):=fun hm=>by
  rw[List.contains_iff_mem.2 hm]at h1
  cases h1
 simp only[List.mem_cons,List.not_mem_nil,or_false,not_or]at h2
 refine⟨h2.2.2,?_⟩
 unfold nin
 cases hc:([32,9]:Str).contains c with
 | false=>rfl
 | true=>
   have:=List.contains_iff_mem.1 hc
   simp only[List.mem_cons,List.not_mem_nil,or_false]at this
   rcases this with h|h
   ·exact absurd h h2.1
   exact absurd h h2.2.1
def Fo(r:Str):Prop:=r=[]∨∃q,r=32::q
theorem tl_fo(r:List Attr):Fo (tl r):=by
 cases r with
 | nil=>exact .inl rfl
 | cons b r=>exact .inr ⟨_,rfl⟩
theorem fo_nin{r:Str}{st:Str}(h:Fo r)(h32:nin st 32=false):r=[]∨∃c q,r=c::q∧nin st c=false:=by
 rcases h with h|⟨q,h⟩
 ·exact .inl h
 exact .inr ⟨32,q,h,h32⟩
theorem fo_end{p r:Str}(h:Fo r):p.length=(p++r).length∨∃p' r',p++r=p'++32::r'∧p.length=p'.length:=by
 rcases h with rfl|⟨q,rfl⟩
 ·exact .inl (by simp)
 exact .inr ⟨p,q,rfl,rfl⟩
theorem F85_is{a:Attr}(h:OKa a)(hq:a.query_=false){r:Str}(hr:Fo r)(hl:r.length≤1000000):F85 (wd a++r)=some (a,((wd a).length:Int),0):=by
 obtain⟨n1,n2,n3⟩:=name_ok h
 have hv:=h.vl
 have hd:=dbl_len a.value_
 have hql:=qt_len a.value_
 obtain⟨nm,v,q⟩:=a
 simp only at hq n1 n2 n3 hv hd hql
 subst hq
 have es:wd ⟨nm,v,false⟩++r=nm++(61::(qt v++r)):=by
  unfold wd
  simp
 have hw:(wd ⟨nm,v,false⟩).length=nm.length+((qt v).length+1):=by unfold wd;simp
 rw[es,hw]
 unfold F85
 have e1:F131 (nm++(61::(qt v++r))) [32,9,61,63,39]=some (nm.length:Int):=by
  rw[F131_is _ (by unfold maxLen;simp only[List.length_append,List.length_cons];omega),unt_app nm _ (fun c hc=>(good_nin (n3 c hc)).1) (.inr ⟨61,_,rfl,rfl⟩)]
 rw[e1]
 simp only[Option.bind_some]
 rw[sslice_pre,sslice_suf]
 simp only[Option.bind_some]
 rw[F75_is,F75_is,F75_is]
 simp only[Option.bind_some]
 rw[show([63]:Str).isPrefixOf (61::(qt v++r))=false from rfl,cond_f]
 cases hb:bare v with
 | true=>
   obtain⟨v1,v2⟩:=bare_t hb
   have eq:qt v=v:=by unfold qt;rw[hb];rfl
   rw[eq]
   obtain⟨x,v',rfl⟩:∃x v',v=x::v':=by
    cases v with
    | nil=>exact absurd rfl v1
    | cons x v'=>exact⟨x,v',rfl⟩
   have hx:=(nin_39 (v2 x (by simp))).1
   have e2:([61,39]:Str).isPrefixOf (61::(x::v'++r))=false:=by
    show((61:UInt8)==61&&((39:UInt8)==x&&true))=false
    have:((39:UInt8)==x)=false:=by simpa using fun e=>hx (Eq.symm e)
    rw[this]
    rfl
   rw[e2,cond_f,show([61]:Str).isPrefixOf (61::(x::v'++r))=true from rfl,cond_t]
   have e3:F131 (61::(x::v'++r)) [32,9]=some (((x::v').length+1:Nat):Int):=by
    rw[F131_is _ (by unfold maxLen;simp only[List.length_append,List.length_cons]at hv ⊢;omega)]
    have:=unt_app (st:=[32,9]) (61::x::v') r (fun c hc=>by
     rcases List.mem_cons.1 hc with rfl|hc
     ·rfl
     exact(nin_39 (v2 c hc)).2) (fo_nin hr rfl)
    rw[show(61:UInt8)::(x::v'++r)=(61::x::v')++r from rfl,this]
    rfl
   rw[e3]
   simp only[Option.bind_some]
   have e4:sslice (61::(x::v'++r)) 1 (((x::v').length+1:Nat):Int)=some (x::v'):=by
    have:=sslice_nat (s:=61::(x::v'++r)) (a:=1) (b:=(x::v').length+1) (by omega) (by simp)
    rw[show((1:Nat):Int)=1 from rfl]at this
    rw[this]
    simp
   rw[e4]
   simp only[Option.bind_some]
   rw[L_SC 39 (by omega)]
   simp only[Option.bind_some]
   have e5:(x::v').contains (39:UInt8)=false:=by
    cases hc:(x::v').contains (39:UInt8)with
    | false=>rfl
    | true=>exact absurd rfl (nin_39 (v2 39 (List.contains_iff_mem.1 hc))).1
   rw[e5,cond_f,wrap64 (by omega) (by omega)]
   have:=j85 (s:=nm++(61::(x::v'++r))) (t:=nm) (v:=x::v') (n:=nm.length+((x::v').length+1)) (by
    have h2:=fo_end (p:=nm++(61::x::v')) hr
    rw[List.append_assoc]at h2
    rw[show nm.length+((x::v').length+1)=(nm++(61::x::v')).length by simp]
    exact h2)
   rw[show((nm.length:Int)+((x::v').length+1:Nat))=((nm.length+((x::v').length+1):Nat):Int)by omega]
   exact this
 | false=>
   have eq:qt v=39::(dbl v++[39]):=by unfold qt;rw[hb];rfl
   rw[eq]at hql ⊢
   rw[show([61,39]:Str).isPrefixOf (61::(39::(dbl v++[39])++r))=true from rfl,cond_t]
   have e4:sslice (61::(39::(dbl v++[39])++r)) 2 ((61::(39::(dbl v++[39])++r)).length:Int)=some (dbl v++39::r):=by
    have:=sslice_suf [61,39] (dbl v++39::r)
    rw[show([61,39]:Str)++(dbl v++39::r)=61::(39::(dbl v++[39])++r)by simp]at this
    exact this
   rw[e4]
   simp only[Option.bind_some]
   rw[F156_is hr hv hl]
   simp only[Option.bind_some]
   rw[show(!true)=false from rfl,cond_f,show IntKind.wrap .i64 (2+(((dbl v).length+1:Nat):Int))=2+(((dbl v).length+1:Nat):Int) from wrap64 (by omega) (by omega),wrap64 (by omega) (by omega)]
   have:=j85 (s:=nm++(61::(39::(dbl v++[39])++r))) (t:=nm) (v:=v) (n:=nm.length+((39::(dbl v++[39])).length+1)) (by
    have h2:=fo_end (p:=nm++(61::39::(dbl v++[39]))) hr
    rw[List.append_assoc]at h2
    rw[show nm.length+((39::(dbl v++[39])).length+1)=(nm++(61::39::(dbl v++[39]))).length by simp]
    exact h2)
   rw[show((nm.length:Int)+(2+(((dbl v).length+1:Nat):Int)))=((nm.length+((39::(dbl v++[39])).length+1):Nat):Int)by simp only[List.length_cons,List.length_append,List.length_nil];omega]
   exact this
theorem badB_32{c:UInt8}(h:badB (B c)=false∨c=33):(decide ((c.toNat:Int)=32)||decide ((c.toNat:Int)=9))=false:=by
 have:=(good_nin h).1
 unfold nin at this
 have h1:([32,9,61,63,39]:Str).contains c=false:=by simpa using this
 have h2:c∉([32,9,61,63,39]:Str):=fun hm=>by
  rw[List.contains_iff_mem.2 hm]at h1
  cases h1
 simp only[List.mem_cons,List.not_mem_nil,or_false,not_or]at h2
 have e1:decide ((c.toNat:Int)=32)=decide (c=32):=byte_eq c 32
 have e2:decide ((c.toNat:Int)=9)=decide (c=9):=byte_eq c 9
 rw[e1,e2,decide_eq_false h2.1,decide_eq_false h2.2.1]
 rfl
theorem step37{s pre:Str}{a:Attr}{r:List Attr}{b:List Attr}(h:OKa a)(hq:a.query_=false)(hs:s=pre++(wd a++tl r))(hl:s.length≤1000000)(go:F86 b a=some 0)(hb:b.length≤1000)(ag:(Int×List Attr)→Option ((List Attr)×Int×Int)):
 F37_b1 s ag ((pre.length:Int),b)=ag (((pre++wd a).length:Int),b++[a]):=by
 obtain⟨n1,n2,n3⟩:=name_ok h
 rw[F37_b1]
 have hlen:s.length=pre.length+((wd a).length+(tl r).length):=by rw[hs];simp
 have hw:1≤(wd a).length:=by unfold wd;simp;omega
 obtain⟨c,nm,hn⟩:∃c nm,a.name_=c::nm:=by
  cases hn:a.name_ with
  | nil=>exact absurd hn n1
  | cons c nm=>exact⟨c,nm,rfl⟩
 have e1:sidx s (pre.length:Int)=some (c.toNat:Int):=by
  rw[hs,show wd a++tl r=c::(nm++61::qt a.value_++tl r)by rw[wd,hn];rfl,sidx_mid]
 rw[decide_eq_true (by omega:(pre.length:Int)<(s.length:Int)),cond_t,e1]
 simp only[Option.bind_some]
 rw[F84,badB_32 (n3 c (by rw[hn];simp))]
 simp only[Option.bind_some]
 rw[cond_f,hs,sslice_suf]
 simp only[Option.bind_some]
 rw[F85_is h hq (tl_fo r) (by omega)]
 simp only[Option.bind_some,decide_true,cond_t]
 rw[go]
 simp only[Option.bind_some,decide_true,Bool.not_true,cond_f]
 rw[appO_eq (by simp only[List.length_cons,List.length_nil];omega)]
 simp only[Option.bind_some]
 rw[wrap64 (by omega) (by omega),List.length_append]
 rfl
theorem loop37:∀ (r:List Attr) (b:List Attr) (pre s:Str) (n:Nat),s=pre++tl r→s.length≤1000000→goL b r=some 0→(∀a∈r,OKa a∧a.query_=false)→b.length+r.length≤1000→2 * r.length<n→
 iter (F37_b1 s) n ((pre.length:Int),b)=some (b++r,0,0)
 | _,_,_,_,0,_,_,_,_,_,h=>absurd h (Nat.not_lt_zero _)
 | [],b,pre,s,n+1,hs,_,_,_,_,_=>by
   show F37_b1 s (iter (F37_b1 s) n) ((pre.length:Int),b)=_
   rw[F37_b1,decide_eq_false (by rw[hs];simp[tl]:¬ (pre.length:Int)<(s.length:Int)),cond_f,List.append_nil]
 | a::r,b,pre,s,1,_,_,_,_,_,h=>by simp only[List.length_cons]at h;omega
 | a::r,b,pre,s,n+2,hs,hl,go,hok,hb,h=>by
   simp only[List.length_cons]at hb h
   obtain⟨o1,o2⟩:=hok a (by simp)
   rw[goL]at go
   obtain⟨e,he,go⟩:=Option.bind_eq_some_iff.1 go
   have e0:e=0:=by
    by_cases h:e=0
    ·exact h
    rw[decide_eq_false h]at go
    exact absurd (Option.some.inj go) h
   subst e0
   replace go:goL (b++[a]) r=some 0:=go
   have hs':s=pre++32::(wd a++tl r):=hs
   show F37_b1 s (iter (F37_b1 s) (n+1)) ((pre.length:Int),b)=_
   have hlen:s.length=pre.length+((wd a).length+(tl r).length+1):=by rw[hs'];simp
   rw[F37_b1,decide_eq_true (by omega:(pre.length:Int)<(s.length:Int)),cond_t]
   have e1:sidx s (pre.length:Int)=some ((32:UInt8).toNat:Int):=by rw[hs',sidx_mid]
   rw[e1]
   simp only[Option.bind_some]
   rw[show F84 ((32:UInt8).toNat:Int)=some true from rfl]
   simp only[Option.bind_some]
   rw[cond_t,wrap64 (by omega) (by omega)]
   rw[show((pre.length:Int)+1)=(((pre++[32]).length:Nat):Int)by simp]
   have hs2:s=(pre++[32])++(wd a++tl r):=by rw[hs'];simp
   show F37_b1 s (iter (F37_b1 s) n) (((pre++[32]).length:Int),b)=_
   rw[step37 o1 o2 hs2 hl he (by omega)]
   rw[loop37 r (b++[a]) (pre++[32]++wd a) s n (by rw[hs2];simp) hl go (fun x hx=>hok x (by simp[hx])) (by simp only[List.length_append,List.length_cons,List.length_nil];omega) (by omega)]
   simp
theorem F37_is{l:List Attr}(go:goL [] l=some 0)(h:∀a∈l,OKa a∧a.query_=false)(hl:l.length≤32):F37 (tx l)=some (l,0,0):=by
 have ht:=tx_len l (fun a ha=>(h a ha).1)
 unfold F37
 cases l with
 | nil=>exact loop37 [] [] [] [] BIG rfl (by simp) rfl h (by simp) (by unfold BIG;simp)
 | cons a r=>
   obtain⟨o1,o2⟩:=h a (by simp)
   rw[goL]at go
   obtain⟨e,he,go⟩:=Option.bind_eq_some_iff.1 go
   have e0:e=0:=by
    by_cases h:e=0
    ·exact h
    rw[decide_eq_false h]at go
    exact absurd (Option.some.inj go) h
   subst e0
   replace go:goL ([]++[a]) r=some 0:=go
   have e1:=fun ag=>step37 (s:=tx (a::r)) (pre:=[]) (r:=r) (b:=[]) o1 o2 rfl (by omega) he (by simp) ag
   have e2:=loop37 r [a] (wd a) (tx (a::r)) 1000000 rfl (by omega) go (fun x hx=>h x (by simp[hx])) (by simp only[List.length_cons,List.length_nil]at hl ⊢;omega) (by simp only[List.length_cons]at hl;omega)
   have e3:∀n,1000001≤n→iter (F37_b1 (tx (a::r))) n (0,[])=some ([a]++r,0,0):=by
    intro n hn
    obtain⟨k,rfl⟩:∃k,n=k+1:=⟨n-1,by omega⟩
    show F37_b1 (tx (a::r)) (iter (F37_b1 (tx (a::r))) k) ((([]:Str).length:Int),[])=_
    rw[e1]
    exact loop37 r [a] (wd a) (tx (a::r)) k rfl (by omega) go (fun x hx=>h x (by simp[hx])) (by simp only[List.length_cons,List.length_nil]at hl ⊢;omega) (by simp only[List.length_cons]at hl;omega)
   exact e3 BIG (by unfold BIG;omega)
end Go.Abs.U54
namespace Go.Abs.U54
open Go Go.Proofs
theorem ib_at{c:UInt8}:∀ (x:Str) (r:Str),c∉x→Lib.indexByte (x++c::r) c=(x.length:Int)
 | [],r,_=>by
   show(if c==c then(0:Int)else _)=_
   rw[if_pos (by simp)]
   rfl
 | a::x,r,h=>by
   simp only[List.mem_cons,not_or]at h
   have ih:=ib_at x r h.2
   have hne:(a==c)=false:=beq_eq_false_iff_ne.2 fun e=>h.1 e.symm
   rw[List.cons_append,Lib.indexByte,ih,hne]
   simp
theorem splitK_one{x:Str}(k:Nat)(r:Str)(h:(10:UInt8)∉x):Lib.splitK [10] 0 (k+1) (x++10::r)=x::Lib.splitK [10] 0 k r:=by
 rw[Lib.splitK,Lib.index_one,ib_at x r h]
 have:(((x.length:Int))==-1)=false:=beq_eq_false_iff_ne.2 (by omega)
 rw[this]
 simp
theorem dd_mem(u:Nat):∀c∈Lib.decDigits u,(10:UInt8)≠c:=by
 induction u using Nat.strongRecOn with
 | _ u ih=>
   have hd:∀d,d<10→(10:UInt8)≠UInt8.ofNat (48+d):=by decide
   intro c hc
   by_cases h:u<10
   ·rw[Lib.decDigits,dif_pos h]at hc
    simp only[List.mem_cons,List.not_mem_nil,or_false]at hc
    rw[hc]
    exact hd u h
   rw[Lib.decDigits,dif_neg h]at hc
   rcases List.mem_append.1 hc with hc|hc
   ·exact ih (u / 10) (by omega) c hc
   simp only[List.mem_cons,List.not_mem_nil,or_false]at hc
   rw[hc]
   exact hd _ (Nat.mod_lt _ (by decide))
theorem dd_head(u:Nat)(h1:1≤u):∃c r,Lib.decDigits u=c::r∧c≠48:=by
 induction u using Nat.strongRecOn with
 | _ u ih=>
   by_cases h:u<10
   ·rw[Lib.decDigits,dif_pos h]
    have hd:∀d,d<10→1≤d→UInt8.ofNat (48+d)≠48:=by decide
    exact⟨_,[],rfl,hd u h h1⟩
   obtain⟨c,r,e,hc⟩:=ih (u / 10) (by omega) (by omega)
   rw[Lib.decDigits,dif_neg h,e]
   exact⟨c,_,rfl,hc⟩
theorem dd_len(u:Nat):(Lib.decDigits u).length≤u+1:=by
 induction u using Nat.strongRecOn with
 | _ u ih=>
   by_cases h:u<10
   ·rw[Lib.decDigits,dif_pos h]
    simp
   have:=ih (u / 10) (by omega)
   rw[Lib.decDigits,dif_neg h]
   simp only[List.length_append,List.length_cons,List.length_nil]
   omega
theorem itoa_nat(u:Nat):Lib.itoa (u:Int)=Lib.decDigits u:=by
 unfold Lib.itoa
 rw[if_neg (by omega)]
 simp
theorem F22_is{n:Nat}(h:n≤1000000):F22 (n:Int) 10=some (Lib.decDigits n):=by
 unfold F22
 rw[show F66 10=some true from rfl]
 simp only[Option.bind_some,Bool.not_true,cond_f,F67]
 unfold L_FormatInt
 rw[if_pos ⟨rfl,by omega,by omega⟩,itoa_nat]
 rfl
theorem step38{s pre r:Str}{d n k:Nat}(hs:s=pre++UInt8.ofNat (48+d)::r)(hl:s.length≤1000000)(hd:d<10)(hn:n * 10+d≤65536):
 iter (F38_b1 s 10 65536) (k+1) ((n:Int),(pre.length:Int))=iter (F38_b1 s 10 65536) k (((n * 10+d:Nat):Int),((pre.length+1:Nat):Int)):=by
 show F38_b1 s 10 65536 (iter (F38_b1 s 10 65536) k) _=_
 have hlen:s.length=pre.length+(r.length+1):=by rw[hs];simp
 rw[F38_b1]
 have e1:sidx s (pre.length:Int)=some ((48+d:Nat):Int):=by
  rw[hs,sidx_mid]
  have:∀d,d<10→(UInt8.ofNat (48+d)).toNat=48+d:=by decide
  rw[this d hd]
 have e2:F87 ((48+d:Nat):Int)=some (d:Int):=by
  have:∀d,d<10→F87 ((48+d:Nat):Int)=some (d:Int):=by decide
  exact this d hd
 have e3:quoO .i64 (IntKind.wrap .i64 (65536-(d:Int))) 10=some (((65536-d) / 10:Nat):Int):=by
  rw[wrap64 (by omega) (by omega)]
  unfold quoO
  rw[if_neg (by decide),show(65536-(d:Int))=((65536-d:Nat):Int)by omega]
  rw[show(((65536-d:Nat):Int)).tdiv 10=(((65536-d) / 10:Nat):Int) from rfl,wrap64 (by omega) (by omega)]
 rw[decide_eq_true (by omega:(pre.length:Int)<(s.length:Int)),cond_t,e1]
 simp only[Option.bind_some]
 rw[e2]
 simp only[Option.bind_some]
 rw[decide_eq_false (by omega:¬ (10:Int)≤(d:Int)),e3]
 show Option.bind (some _) _=_
 simp only[Option.bind_some]
 rw[decide_eq_false (by omega:¬ (((65536-d) / 10:Nat):Int)<(n:Int)),decide_eq_false (by omega:¬ (65536:Int)<(d:Int))]
 show iter (F38_b1 s 10 65536) k _=_
 rw[wrap64 (n:=(n:Int) * 10) (by omega) (by omega),wrap64 (by omega) (by omega),wrap64 (by omega) (by omega)]
 rfl
theorem loop38(u:Nat):∀ {s r:Str} (k:Nat),s=Lib.decDigits u++r→s.length≤1000000→u≤65536→
 iter (F38_b1 s 10 65536) (k+(Lib.decDigits u).length) (0,0)=iter (F38_b1 s 10 65536) k ((u:Int),((Lib.decDigits u).length:Int)):=by
 induction u using Nat.strongRecOn with
 | _ u ih=>
   intro s r k hs hl hu
   by_cases h:u<10
   ·have e:Lib.decDigits u=[UInt8.ofNat (48+u)]:=by rw[Lib.decDigits,dif_pos h]
    rw[e]at hs ⊢
    have:=step38 (s:=s) (pre:=[]) (r:=r) (n:=0) (k:=k) hs hl h (by omega)
    simp only[Nat.zero_mul,Nat.zero_add]at this
    exact this
   have e:Lib.decDigits u=Lib.decDigits (u / 10)++[UInt8.ofNat (48+u % 10)]:=by rw[Lib.decDigits,dif_neg h]
   rw[e]at hs ⊢
   rw[List.append_assoc]at hs
   have h1:=ih (u / 10) (by omega) (k+1) hs hl (by omega)
   have h2:=step38 (k:=k) (n:=u / 10) hs hl (Nat.mod_lt u (by decide)) (by omega)
   rw[List.length_append,show k+((Lib.decDigits (u / 10)).length+[UInt8.ofNat (48+u % 10)].length)=k+1+(Lib.decDigits (u / 10)).length by simp only[List.length_cons,List.length_nil];omega,h1,h2]
   rw[show u / 10 * 10+u % 10=u by omega]
   rfl
theorem F38_is{u:Nat}(h:u≤65536):F38 (Lib.decDigits u) 10 65536=some ((u:Int),0):=by
 have hl:=dd_len u
 have fin:iter (F38_b1 (Lib.decDigits u) 10 65536) BIG (0,0)=some ((u:Int),0):=by
  obtain⟨k,hk⟩:∃k,BIG=(k+1)+(Lib.decDigits u).length:=⟨BIG-1-(Lib.decDigits u).length,by unfold BIG;omega⟩
  rw[hk,loop38 u (r:=[]) (k+1) (by simp) (by omega) h]
  show F38_b1 _ 10 65536 _ _=_
  rw[F38_b1,decide_eq_false (by omega),cond_f]
 unfold F38
 rw[show F66 10=some true from rfl]
 simp only[Option.bind_some]
 rw[show(!true||decide ((65536:Int)<0))=false from rfl,cond_f,fin]
 by_cases h1:1≤u
 ·obtain⟨c,r,e,hc⟩:=dd_head u h1
  rw[e]
  have e1:decide ((c.toNat:Int)=48)=decide (c=48):=byte_eq c 48
  by_cases h2:(1:Int)<((c::r).length:Int)
  ·rw[decide_eq_true h2,show sidx (c::r) 0=some (c.toNat:Int) from rfl]
   show Option.bind (some _) _=_
   simp only[Option.bind_some]
   rw[e1,decide_eq_false hc]
   rfl
  rw[decide_eq_false h2]
  rfl
 have:u=0:=by omega
 subst this
 have e:Lib.decDigits 0=[48]:=by rw[Lib.decDigits];rfl
 rw[e]
 rfl
def txt(m:Plumb):Str:=m.src_++10::(m.dst_++10::(m.dir_++10::(m.type_++10::(tx m.attrs_++10::(Lib.decDigits m.data_.length++10::m.data_)))))
theorem txt_len{m:Plumb}(h:OKm m):(txt m).length≤300000∧6≤(txt m).length:=by
 have h1:=(h.t m.src_ (by simp)).1
 have h2:=(h.t m.dst_ (by simp)).1
 have h3:=(h.t m.dir_ (by simp)).1
 have h4:=(h.t m.type_ (by simp)).1
 have h5:=tx_len m.attrs_ h.a
 have h6:=dd_len m.data_.length
 have h7:=h.d
 have h8:=h.al
 unfold txt
 simp only[List.length_append,List.length_cons]
 omega
theorem tx_10{l:List Attr}(h:∀a∈l,OKa a):(10:UInt8)∉tx l:=by
 have hd:∀v:Str,(10:UInt8)∉v→(10:UInt8)∉dbl v:=by
  intro v hv hm
  unfold dbl at hm
  obtain⟨x,hx,hm⟩:=List.mem_flatMap.1 hm
  by_cases hq:x=39
  ·rw[if_pos hq]at hm
   simp at hm
  rw[if_neg hq]at hm
  simp only[List.mem_cons,List.not_mem_nil,or_false]at hm
  exact hv (hm▸hx)
 have hw:∀a,OKa a→(10:UInt8)∉wd a:=by
  intro a ha hm
  have hv:(10:UInt8)∉a.value_:=fun hx=>by
   have:=unt_all ha.v 10 hx
   exact absurd this (by decide)
  unfold wd at hm
  rcases List.mem_append.1 hm with hm|hm
  ·exact(good_nin ((name_ok ha).2.2 10 hm)).2 rfl
  rcases List.mem_cons.1 hm with hm|hm
  ·exact absurd hm (by decide)
  unfold qt at hm
  cases hb:bare a.value_ with
  | true=>rw[hb]at hm;exact hv hm
  | false=>
    rw[hb]at hm
    rcases List.mem_cons.1 hm with hm|hm
    ·exact absurd hm (by decide)
    rcases List.mem_append.1 hm with hm|hm
    ·exact hd _ hv hm
    simp at hm
 have ht:∀r:List Attr,(∀a∈r,OKa a)→(10:UInt8)∉tl r:=by
  intro r
  induction r with
  | nil=>intro _ hm;exact absurd hm (by simp[tl])
  | cons b r ih=>
    intro hr hm
    rw[tl]at hm
    rcases List.mem_cons.1 hm with hm|hm
    ·exact absurd hm (by decide)
    rcases List.mem_append.1 hm with hm|hm
    ·exact hw b (hr b (by simp)) hm
    exact ih (fun a ha=>hr a (by simp[ha])) hm
 cases l with
 | nil=>simp[tx]
 | cons a r=>
   intro hm
   rw[tx]at hm
   rcases List.mem_append.1 hm with hm|hm
   ·exact hw a (h a (by simp)) hm
   exact ht r (fun x hx=>h x (by simp[hx])) hm
theorem join_txt(m:Plumb):Lib.join [m.src_,m.dst_,m.dir_,m.type_,tx m.attrs_,Lib.decDigits m.data_.length,m.data_] [10]=txt m:=by
 rw[Lib.join_cons]
 unfold Lib.joinTail txt
 simp
theorem F5_tot{m:Plumb}(w:Wm m):∃r e,F5 m=some (r,e)∧(e=0→OKm m∧r=txt m):=by
 obtain⟨e,he,h0⟩:=F19_tot w
 unfold F5
 rw[he]
 simp only[Option.bind_some]
 by_cases h:e=0
 ·subst h
  have ok:=h0 rfl
  have ht:=(txt_len ok).1
  rw[F20_is ok.go (fun a ha=>⟨ok.a a ha,ok.q a ha⟩) ok.al]
  simp only[decide_true,Bool.not_true,cond_f,Option.bind_some]
  rw[F22_is (by have:=ok.d;omega)]
  simp only[Option.bind_some]
  rw[L_Join_eq (by rw[join_txt];omega) (by simp),join_txt]
  exact⟨_,_,rfl,fun _=>⟨ok,rfl⟩⟩
 rw[decide_eq_false h]
 exact⟨_,_,rfl,fun h2=>absurd h2 h⟩
theorem F5_is{m:Plumb}(w:Wm m)(ok:OKm m):F5 m=some (txt m,0):=by
 obtain⟨r,e,h,h0⟩:=F5_tot w
 have:e=0:=by
  have h2:=h
  unfold F5 at h2
  rw[F19_ok w ok]at h2
  simp only[Option.bind_some,decide_true,Bool.not_true,cond_f]at h2
  rw[F20_is ok.go (fun a ha=>⟨ok.a a ha,ok.q a ha⟩) ok.al]at h2
  simp only[decide_true,Bool.not_true,cond_f,Option.bind_some]at h2
  rw[F22_is (by have:=ok.d;omega)]at h2
  simp only[Option.bind_some]at h2
  rw[L_Join_eq (by rw[join_txt];have:=(txt_len ok).1;omega) (by simp)]at h2
  simp only[Option.bind_some,Option.some.injEq,Prod.mk.injEq]at h2
  exact h2.2.symm
 subst this
 rw[h,(h0 rfl).2]
theorem split_txt{m:Plumb}(ok:OKm m):L_SplitN (txt m) [10] 7=some [m.src_,m.dst_,m.dir_,m.type_,tx m.attrs_,Lib.decDigits m.data_.length,m.data_]:=by
 obtain⟨l1,l2⟩:=txt_len ok
 have h1:=(ok.t m.src_ (by simp)).2
 have h2:=(ok.t m.dst_ (by simp)).2
 have h3:=(ok.t m.dir_ (by simp)).2
 have h4:=(ok.t m.type_ (by simp)).2
 have h5:=tx_10 ok.a
 have h6:(10:UInt8)∉Lib.decDigits m.data_.length:=fun h=>dd_mem _ _ h rfl
 unfold L_SplitN
 rw[if_pos ⟨by omega,by decide,by decide,by decide⟩]
 unfold splitN
 rw[Lib.splitB_data,show min ((7:Int).toNat) ((txt m).length+1)-1=6 by rw[show(7:Int).toNat=7 from rfl];omega]
 show some (Lib.splitK [10] 0 6 (txt m))=_
 unfold txt
 rw[splitK_one 5 _ h1,splitK_one 4 _ h2,splitK_one 3 _ h3,splitK_one 2 _ h4,splitK_one 1 _ h5,splitK_one 0 _ h6]
 rfl
theorem F11_is{m:Plumb}(w:Wm m)(ok:OKm m):F11 (txt m)=some (m,0):=by
 unfold F11
 rw[split_txt ok]
 simp only[Option.bind_some]
 rw[show decide ((([m.src_,m.dst_,m.dir_,m.type_,tx m.attrs_,Lib.decDigits m.data_.length,m.data_]:List Str).length:Int)≤6)=false from rfl,cond_f]
 rw[show lidx [m.src_,m.dst_,m.dir_,m.type_,tx m.attrs_,Lib.decDigits m.data_.length,m.data_] 4=some (tx m.attrs_) from rfl]
 simp only[Option.bind_some]
 rw[F37_is ok.go (fun a ha=>⟨ok.a a ha,ok.q a ha⟩) ok.al]
 simp only[Option.bind_some,decide_true,Bool.not_true,cond_f]
 rw[show lidx [m.src_,m.dst_,m.dir_,m.type_,tx m.attrs_,Lib.decDigits m.data_.length,m.data_] 5=some (Lib.decDigits m.data_.length) from rfl]
 simp only[Option.bind_some]
 rw[F38_is ok.d]
 simp only[Option.bind_some,decide_true,Bool.not_true,cond_f]
 rw[show lidx [m.src_,m.dst_,m.dir_,m.type_,tx m.attrs_,Lib.decDigits m.data_.length,m.data_] 6=some m.data_ from rfl]
 simp only[Option.bind_some]
 rw[decide_eq_false (by omega),cond_f]
 show(F19 m).bind _=_
 rw[F19_ok w ok]
 rfl
end Go.Abs.U54
namespace Go.Abs.U54
open Go Go.Proofs
def nE:Str:=[101,100,105,116]
def pE(q:Option (List Plumb))(n:Int):Port:=⟨nE,q,n⟩
def pW:Port:=⟨[119,101,98],none,0⟩
def rt(q:Option (List Plumb))(n:Int):Plumber:=⟨[],[pE q n,pW]⟩
theorem c6:F6 [[119,101,98],[101,100,105,116]]=some (rt none 0,0):=by kernel_rfl
theorem c7:F7 (rt none 0) 1 [101,100,105,116]=some (4,0):=by kernel_rfl
theorem c8:F8 (rt none 0) 4 0=some (rt none 1,0):=by kernel_rfl
theorem c31:F31 (rt none 1)=some [pE none 1,pW]:=by kernel_rfl
theorem c10:F10 (rt (some []) 1) 4 0 65536=some (rt none 1,[],true,0):=by kernel_rfl
theorem F73_is{m:Plumb}(ok:OKm m):F73 m=some m:=by
 unfold F73 L_CloneA
 rw[if_pos (by have:=ok.al;omega)]
 rfl
theorem F31_q{m:Plumb}(ok:OKm m):F31 (rt (some [m]) 1)=some [pE (some [m]) 1,pW]:=by
 obtain⟨k,hk⟩:∃k,BIG=k+4:=⟨BIG-4,by unfold BIG;omega⟩
 unfold F31
 rw[hk]
 show F31_b1 (rt (some [m]) 1) _ ()=_
 rw[F31_b1,hk]
 show F31_b3 (rt (some [m]) 1) (iter (F31_b3 (rt (some [m]) 1)) (k+3)) (0,[])=_
 rw[F31_b3]
 rw[show decide ((0:Int)<((rt (some [m]) 1).ports_.length:Int))=true from rfl,cond_t,show lidx (rt (some [m]) 1).ports_ 0=some (pE (some [m]) 1) from rfl]
 simp only[Option.bind_some]
 rw[show decide ((0:Int)<(((pE (some [m]) 1).queue_.getD []).length:Int))=true from rfl,cond_t,show lidx ((pE (some [m]) 1).queue_.getD []) 0=some m from rfl]
 simp only[Option.bind_some]
 rw[F73_is ok]
 simp only[Option.bind_some]
 rw[appO_eq (by simp)]
 simp only[Option.bind_some]
 rw[hk]
 show F31_b4 (pE (some [m]) 1) [] (iter (F31_b3 (rt (some [m]) 1)) (k+3)) 0 _ _=_
 rw[F31_b4]
 rw[show decide (IntKind.wrap .i64 (0+1)<(((pE (some [m]) 1).queue_.getD []).length:Int))=false from rfl,cond_f,appO_eq (by simp)]
 simp only[Option.bind_some]
 show F31_b3 (rt (some [m]) 1) (iter (F31_b3 (rt (some [m]) 1)) (k+2)) (1,[pE (some [m]) 1])=_
 rw[F31_b3]
 rw[show decide ((1:Int)<((rt (some [m]) 1).ports_.length:Int))=true from rfl,cond_t,show lidx (rt (some [m]) 1).ports_ 1=some pW from rfl]
 simp only[Option.bind_some]
 rw[show decide ((0:Int)<((pW.queue_.getD []).length:Int))=false from rfl,cond_f,appO_eq (by simp)]
 simp only[Option.bind_some]
 show F31_b3 (rt (some [m]) 1) (iter (F31_b3 (rt (some [m]) 1)) (k+1)) (2,[pE (some [m]) 1,pW])=_
 rw[F31_b3]
 rw[show decide ((2:Int)<((rt (some [m]) 1).ports_.length:Int))=false from rfl,cond_f]
theorem F34_is{m:Plumb}(w:Wm m)(ok:OKm m)(hd:m.dst_=nE):F34 (rt none 1) m=bif decide ((txt m).length≤65536)then some (rt (some [m]) 1,0)else some (rt none 1,4):=by
 unfold F34
 rw[c31]
 simp only[Option.bind_some]
 rw[F5_is w ok]
 simp only[Option.bind_some,decide_true,Bool.not_true,cond_f]
 rw[show F79 (rt none 1).rules_ m=some (Plumb.mk [] [] [] [] [] [],[],false) from rfl]
 simp only[Option.bind_some]
 rw[show(!false)=true from rfl,cond_t,hd,show F29x1 [pE none 1,pW] nE=some 0 by kernel_rfl]
 simp only[Option.bind_some]
 rw[show decide ((0:Int)<0)=false from rfl,show lidx [pE none 1,pW] 0=some (pE none 1) from rfl]
 show Option.bind (some _) _=_
 simp only[Option.bind_some]
 rw[show(false||decide ((pE none 1).opens_=0))=false from rfl,cond_f]
 unfold F81
 rw[F5_is w ok]
 simp only[Option.bind_some,decide_true,Bool.true_and]
 by_cases h:(txt m).length≤65536
 ·rw[decide_eq_true h,decide_eq_true (by omega:((txt m).length:Int)≤65536),cond_t]
  rw[show(!true)=false from rfl,cond_f]
  rw[show decide ((64:Int)≤(((pE none 1).queue_.getD []).length:Int))=false from rfl,cond_f,F73_is ok]
  simp only[Option.bind_some]
  rw[show nilO (pE none 1).queue_=some () from rfl,appO_eq (by simp)]
  rfl
 rw[decide_eq_false h,decide_eq_false (by omega:¬ ((txt m).length:Int)≤65536),cond_f]
 rfl
theorem F9_is{m:Plumb}(w:Wm m)(ok:OKm m)(hd:m.dst_=nE):F9 (rt none 1) 3 0 (txt m)=bif decide ((txt m).length≤65536)then some (rt (some [m]) 1,((txt m).length:Int),0)else some (rt none 1,0,4):=by
 unfold F9
 rw[c31]
 simp only[Option.bind_some]
 rw[show F28 (rt none 1) 3=some true from rfl]
 simp only[Option.bind_some,Bool.not_true,cond_f]
 rw[show decide ((3:Int)=1)=false from rfl,show decide ((0:Int)<0)=false from rfl,show decide ((4:Int)≤3)=false from rfl,show decide ((3:Int)=2)=false from rfl]
 simp only[cond_f]
 rw[F11_is w ok]
 simp only[Option.bind_some,decide_true,Bool.not_true,cond_f]
 rw[F34_is w ok hd]
 by_cases h:(txt m).length≤65536
 ·rw[decide_eq_true h]
  rfl
 rw[decide_eq_false h]
 rfl
theorem F10_is{m:Plumb}(w:Wm m)(ok:OKm m)(h:(txt m).length≤65536):F10 (rt (some [m]) 1) 4 0 65536=some (rt (some []) 1,txt m,false,0):=by
 unfold F10
 rw[F31_q ok]
 simp only[Option.bind_some]
 rw[show F28 (rt (some [m]) 1) 4=some true from rfl]
 simp only[Option.bind_some,Bool.not_true,cond_f]
 rw[show decide ((4:Int)=1)=false from rfl,show(decide ((0:Int)<0)||decide ((65536:Int)<0))=false from rfl,show decide ((4:Int)=3)=false from rfl,show decide ((4:Int)=2)=false from rfl]
 simp only[cond_f]
 rw[show lidx [pE (some [m]) 1,pW] (IntKind.wrap .i64 (4-4))=some (pE (some [m]) 1) from rfl]
 simp only[Option.bind_some]
 rw[show decide ((((pE (some [m]) 1).queue_.getD []).length:Int)=0)=false from rfl,cond_f,show lidx ((pE (some [m]) 1).queue_.getD []) 0=some m from rfl]
 simp only[Option.bind_some]
 rw[F5_is w ok]
 simp only[Option.bind_some,decide_true,Bool.true_and]
 rw[show imin 65536 65536=65536 from rfl,decide_eq_false (by omega:¬ (65536:Int)<((txt m).length:Int))]
 rfl
theorem F39_is{l:List Attr}(w:l.length≤maxLen):F39 l l=some true:=by
 unfold maxLen at w
 have h:∀ (n j:Nat),j≤l.length→l.length-j<n→iter (F39_b1 l l) n (j:Int)=some true:=by
  intro n
  induction n with
  | zero=>intro j _ h;omega
  | succ n ih=>
    intro j hj hn
    show F39_b1 l l (iter (F39_b1 l l) n) (j:Int)=_
    rw[F39_b1]
    by_cases hlt:j<l.length
    ·rw[decide_eq_true (by omega:(j:Int)<(l.length:Int)),cond_t]
     have e:lidx l (j:Int)=some l[j]:=by
      unfold lidx
      rw[if_pos (by omega)]
      simp[hlt]
     rw[e]
     simp only[Option.bind_some,decide_true,Bool.true_and,beq_self_eq_true,Bool.not_true,cond_f]
     rw[wrap64 (by omega) (by omega)]
     exact ih (j+1) (by omega) (by omega)
    rw[decide_eq_false (by omega:¬ (j:Int)<(l.length:Int)),cond_f]
 unfold F39
 rw[decide_eq_true rfl,show(!true)=false from rfl,cond_f]
 exact h BIG 0 (by omega) (by unfold BIG;omega)
theorem F12_is{m:Plumb}(w:m.attrs_.length≤maxLen):F12 m m=some true:=by
 unfold F12
 rw[F39_is w]
 simp only[decide_true,Bool.true_and,Bool.and_true]
 rfl
theorem F3_is{m:Plumb}(w:Wm m):F3 m=some true:=by
 have hA:((F4).bind fun r4=>some r4)=some true:=by rw[awake_true];rfl
 unfold F3
 cases((decide (10000<IntKind.wrap .i64 ((IntKind.wrap .i64 ((m.src_.length:Int)+(m.dir_.length:Int)))+(m.type_.length:Int)))||decide (40<(m.attrs_.length:Int)))||decide (70000<(m.data_.length:Int)))with
 | true=>rw[cond_t];exact hA
 | false=>
   rw[cond_f]
   have w2:Wm (Plumb.mk m.src_ [101,100,105,116] m.dir_ m.type_ m.attrs_ m.data_):=w
   generalize hm:Plumb.mk m.src_ [101,100,105,116] m.dir_ m.type_ m.attrs_ m.data_=x at w2
   have hd:x.dst_=nE:=by rw[←hm];rfl
   obtain⟨r,e,h5,h0⟩:=F5_tot w2
   rw[h5]
   simp only[Option.bind_some]
   by_cases he:e=0
   ·subst he
    obtain⟨ok,rfl⟩:=h0 rfl
    simp only[decide_true,Bool.not_true,cond_f]
    rw[c6]
    simp only[Option.bind_some]
    rw[c7]
    simp only[Option.bind_some]
    rw[c8]
    simp only[Option.bind_some]
    rw[F9_is w2 ok hd]
    by_cases hl:(txt x).length≤65536
    ·rw[decide_eq_true hl,cond_t]
     simp only[Option.bind_some,decide_true,Bool.not_true,Bool.or_false,cond_f]
     rw[decide_eq_false (by omega:¬ (65536:Int)<((txt x).length:Int)),cond_f,F10_is w2 ok hl]
     simp only[Option.bind_some]
     rw[F11_is w2 ok]
     simp only[Option.bind_some]
     rw[c10]
     simp only[Option.bind_some,decide_true,Bool.not_false,Bool.and_true]
     rw[F12_is w2.1]
     show Option.bind (some _) _=_
     simp only[Option.bind_some,Bool.true_and,Bool.and_true]
     rw[awake_true]
     rfl
    rw[decide_eq_false hl,cond_f]
    simp only[Option.bind_some,decide_true,Bool.not_true,Bool.or_false,cond_f]
    rw[decide_eq_true (by omega:(65536:Int)<((txt x).length:Int)),cond_t,awake_true]
    rfl
   rw[decide_eq_false he,show(!false)=true from rfl,cond_t]
   exact hA
end Go.Abs.U54
namespace Go.Abs.U54
open Go Go.Proofs
theorem law3(m:Plumb)(w:w_24 m):F3 m=some true:=
 F3_is ⟨w.2.2.2.2.1.1,fun a h=>⟨(w.2.2.2.2.1.2 a h).1,(w.2.2.2.2.1.2 a h).2.1⟩,w.2.2.2.2.2⟩
end Go.Abs.U54
