import Derived.Test.YtljahlbklgnfhaaGreatDoorPY
set_option linter.unusedVariables false
set_option linter.unusedSimpArgs false
set_option linter.defProp false
namespace Go.Abs.U48
open Go Go.Proofs
inductive Atm where
 | w (t q:Str)
 | v (n:Str)
 | k (n:Str)
 | s (x:Str)
 | h (raw:Bool) (t:Str)
 | sp
 | nl
abbrev ax(t:Str):Atm:=.w t (List.replicate t.length 48)
def em:Atm->St->St
 | .w t q,st=>put (Q5q t q) st
 | .v n,st=>put (36::n) st
 | .k n,st=>put (36::35::n) st
 | .s x,st=>put x st
 | .h raw t,st=>put ([60,60]++qraw raw++mark t++qraw raw) (wait (t++(mark t++[10])) st)
 | .sp,st=>put [32] st
 | .nl,st=>nl st
def ems:List Atm->St->St
 | [],st=>st
 | a::r,st=>ems r (em a st)
theorem Q1u:∀ (a b:List Atm) (st:St),ems (a++b) st=ems b (ems a st)
 | [],_,_=>rfl
 | x::a,b,st=>Q1u a b (em x st)
mutual
def aW:Word->List Atm
 | ⟨k,t,q,ws,cs⟩=>
   bif decide (k=1)then[.w t q]
   else bif decide (k=2)then[.v t]
   else bif decide (k=3)then[.k t]
   else bif decide (k=7)then .v t::.s [40]::(aSep ws [.sp] true++[.s [41]])
   else bif decide (k=5)then .s [40]::(aSep ws [.sp] true++[.s [41]])
   else bif decide (k=4)then aSep ws [.s [94]] true
   else .s [96]::.s [123]::.nl::(aIts cs++[.s [125]])
def aSep:List Word->List Atm->Bool->List Atm
 | [],_,_=>[]
 | w::r,s,f=>(bif f then[]else s)++(aW w++aSep r s false)
def aC:Cmd->List Atm
 | ⟨k,_,nm,ws,rs,ks⟩=>
   bif decide (k=14)then aJ ks [] true++[.sp,.s [38]]
   else bif decide (k=5)then aJ ks [.sp,.s [38,38],.sp] true
   else bif decide (k=6)then aJ ks [.sp,.s [124,124],.sp] true
   else bif decide (k=3)then aJ ks [.sp,.s [124],.sp] true
   else bif decide (k=7)then .s [33]::.sp::aJ ks [] true
   else bif decide (k=13)then .s [64]::.sp::aJ ks [] true
   else bif decide (k=9)then ax [105,102]::.sp::ax [110,111,116]::.sp::aJ ks [] true
   else bif decide (k=12)then .s [123]::.nl::(aIts ks++(.s [125]::aRs rs false))
   else bif decide (k=1)then aSep ws [.sp] true++aRs rs (decide (ws=[]))
   else bif decide (k=2)then ax nm::.s [61]::(aSep ws [.sp] true++((bif decide (ks.length=0)then[]else[.sp])++aJ ks [] true))
   else bif decide (k=8)then ax [105,102]::.s [40]::aT ks
   else bif decide (k=11)then ax [119,104,105,108,101]::.s [40]::aT ks
   else bif decide (k=10)then ax [102,111,114]::.s [40]::ax nm::.sp::ax [105,110]::(aSep ws [.sp] false++(.s [41]::.sp::aJ ks [] true))
   else bif decide (k=17)then ax [115,119,105,116,99,104]::(aSep ws [.sp] false++(.sp::.s [123]::.nl::(aCs ks++[.s [125]])))
   else bif decide (k=15)then ax [102,110]::.sp::ax nm::(bif decide (ks.length=0)then[]else .sp::.s [123]::.nl::(aIts ks++[.s [125]]))
   else ax [126]::aSep ws [.sp] false
def aIts:List Cmd->List Atm
 | []=>[]
 | c::r=>aC c++(.nl::aIts r)
def aJ:List Cmd->List Atm->Bool->List Atm
 | [],_,_=>[]
 | c::r,s,f=>(bif f then[]else s)++(aC c++aJ r s false)
def aT:List Cmd->List Atm
 | []=>[]
 | c::r=>.nl::(aK c++(.s [41]::.sp::aJ r [] true))
def aK:Cmd->List Atm
 | ⟨_,_,_,_,_,ks⟩=>aIts ks
def aCa:Cmd->List Atm
 | ⟨_,_,_,ws,_,ks⟩=>ax [99,97,115,101]::(aSep ws [.sp] false++(.nl::aIts ks))
def aCs:List Cmd->List Atm
 | []=>[]
 | c::r=>aCa c++aCs r
def aR:Redir->List Atm
 | ⟨k,fd,a,w,raw⟩=>
   bif decide (k=1)then .s (60::brk fd 0)::.sp::aW w
   else bif decide (k=2)then .s (62::brk fd 1)::.sp::aW w
   else bif decide (k=3)then .s (62::62::brk fd 1)::.sp::aW w
   else bif decide (k=5)then[.s ([62,91]++dig fd++[61]++dig a++[93])]
   else bif decide (k=6)then[.s ([62,91]++dig fd++[61,93])]
   else[.h raw w.text_]
def aRs:List Redir->Bool->List Atm
 | [],_=>[]
 | d::r,f=>(bif f then[]else[.sp])++(aR d++aRs r false)
end
theorem Y8r(w:Word):aW w=
 (bif decide (w.kind_=1)then[.w w.text_ w.quoted_]
 else bif decide (w.kind_=2)then[.v w.text_]
 else bif decide (w.kind_=3)then[.k w.text_]
 else bif decide (w.kind_=7)then .v w.text_::.s [40]::(aSep w.words_ [.sp] true++[.s [41]])
 else bif decide (w.kind_=5)then .s [40]::(aSep w.words_ [.sp] true++[.s [41]])
 else bif decide (w.kind_=4)then aSep w.words_ [.s [94]] true
 else .s [96]::.s [123]::.nl::(aIts w.cmd_++[.s [125]])):=by
 obtain⟨_,_,_,ws,cs⟩:=w
 rw[aW]
theorem Y1r(c:Cmd):aCa c=ax [99,97,115,101]::(aSep c.words_ [.sp] false++(.nl::aIts c.kids_)):=by
 obtain⟨_,_,_,ws,rs,ks⟩:=c
 rw[aCa]
theorem Y8t(d:Redir):aR d=
 (bif decide (d.kind_=1)then .s (60::brk d.fd_ 0)::.sp::aW d.word_
 else bif decide (d.kind_=2)then .s (62::brk d.fd_ 1)::.sp::aW d.word_
 else bif decide (d.kind_=3)then .s (62::62::brk d.fd_ 1)::.sp::aW d.word_
 else bif decide (d.kind_=5)then[.s ([62,91]++dig d.fd_++[61]++dig d.from_++[93])]
 else bif decide (d.kind_=6)then[.s ([62,91]++dig d.fd_++[61,93])]
 else[.h d.raw_ d.word_.text_]):=by
 obtain⟨_,_,_,w,_⟩:=d
 rw[aR]
theorem K9u:∀t:Str,qrun false t (List.replicate t.length 48)=t
 | []=>rfl
 | c::t=>by
   rw[G0i,G3g,qrun,K9u t]
   rfl
theorem V5a{t:Str}(h:t≠[]):Q5q t (List.replicate t.length 48)=t:=by
 rw[Q5q,G0b h,Q0a,K9u]
theorem Z4b{t:Str}(h:t≠[])(st:St):em (ax t) st=put t st:=by
 rw[em,V5a h]
mutual
def nmW:Word->Prop
 | ⟨_,_,_,ws,cs⟩=>nmWs ws/\nmCs cs
def nmWs:List Word->Prop
 | []=>True
 | w::r=>nmW w/\nmWs r
def nmC:Cmd->Prop
 | ⟨k,_,nm,ws,rs,ks⟩=>((k=2\/k=10\/k=15)->nm≠[])/\nmWs ws/\nmRs rs/\nmCs ks
def nmCs:List Cmd->Prop
 | []=>True
 | c::r=>nmC c/\nmCs r
def nmR:Redir->Prop
 | ⟨_,_,_,w,_⟩=>nmW w
def nmRs:List Redir->Prop
 | []=>True
 | r::s=>nmR r/\nmRs s
end
mutual
theorem K3o:∀ (w:Word) (st:St),nmW w->pW w st=ems (aW w) st
 | ⟨k,t,q,ws,cs⟩,st,h=>by
   rw[nmW]at h
   obtain⟨a,d⟩:=h
   rw[pW,aW]
   cases decide (k=1)with
   | true=>rfl
   | false=>
   cases decide (k=2)with
   | true=>rfl
   | false=>
   cases decide (k=3)with
   | true=>rfl
   | false=>
   cases decide (k=7)with
   | true=>
     simp only[Q0b,Q0a]
     rw[Q5s ws [.sp] [32] true _ a (λ_=>rfl),ems,ems,Q1u,ems,ems,em,em,em,Q0t]
     rfl
   | false=>
   cases decide (k=5)with
   | true=>
     simp only[Q0b,Q0a]
     rw[Q5s ws [.sp] [32] true _ a (λ_=>rfl),ems,Q1u,ems,ems]
     rfl
   | false=>
   cases decide (k=4)with
   | true=>
     simp only[Q0b,Q0a]
     rw[Q5s ws [.s [94]] [94] true _ a (λ_=>rfl)]
   | false=>
     simp only[Q0a]
     rw[Z1j cs _ d,ems,ems,ems,Q1u,ems,ems,em,em,em,em,Q0t]
     rfl
theorem Q5s:∀ (l:List Word) (s:List Atm) (x:Str) (f:Bool) (st:St),nmWs l->(∀st,ems s st=put x st)->pSep l x f st=ems (aSep l s f) st
 | [],_,_,_,_,_,_=>by rw[pSep,aSep,ems]
 | w::r,s,x,f,st,h,hs=>by
   rw[nmWs]at h
   rw[pSep,aSep,Q1u,Q1u,K3o w _ h.1,Q5s r s x false _ h.2 hs]
   cases f with
   | true=>rfl
   | false=>simp only[Q0a];rw[hs]
theorem V5k:∀ (c:Cmd) (st:St),nmC c->pC c st=ems (aC c) st
 | ⟨k,a,nm,ws,rs,ks⟩,st,h=>by
   rw[nmC]at h
   obtain⟨g,e,l,d⟩:=h
   rw[pC,aC]
   cases decide (k=14)with
   | true=>simp only[Q0b];rw[Z8b ks [] [] true _ d (λst=>(Q7s st).symm),Q1u,ems,ems,ems,em,em,Q0t];rfl
   | false=>
   cases decide (k=5)with
   | true=>simp only[Q0b,Q0a];rw[Z8b ks [.sp,.s [38,38],.sp] [32,38,38,32] true _ d (λst=>by rw[ems,ems,ems,ems,em,em,em,Q0t,Q0t];rfl)]
   | false=>
   cases decide (k=6)with
   | true=>simp only[Q0b,Q0a];rw[Z8b ks [.sp,.s [124,124],.sp] [32,124,124,32] true _ d (λst=>by rw[ems,ems,ems,ems,em,em,em,Q0t,Q0t];rfl)]
   | false=>
   cases decide (k=3)with
   | true=>simp only[Q0b,Q0a];rw[Z8b ks [.sp,.s [124],.sp] [32,124,32] true _ d (λst=>by rw[ems,ems,ems,ems,em,em,em,Q0t,Q0t];rfl)]
   | false=>
   cases decide (k=7)with
   | true=>simp only[Q0b,Q0a];rw[Z8b ks [] [] true _ d (λst=>(Q7s st).symm),ems,ems,em,em,Q0t];rfl
   | false=>
   cases decide (k=13)with
   | true=>simp only[Q0b,Q0a];rw[Z8b ks [] [] true _ d (λst=>(Q7s st).symm),ems,ems,em,em,Q0t];rfl
   | false=>
   cases decide (k=9)with
   | true=>simp only[Q0b,Q0a];rw[Z8b ks [] [] true _ d (λst=>(Q7s st).symm),ems,ems,ems,ems,Z4b (by simp),Z4b (by simp),em,em,Q0t,Q0t,Q0t];rfl
   | false=>
   cases decide (k=12)with
   | true=>simp only[Q0b,Q0a];rw[Z1j ks _ d,X7v rs false _ l,ems,ems,Q1u,ems,em,em,em]
   | false=>
   cases decide (k=1)with
   | true=>simp only[Q0b,Q0a];rw[Q5s ws [.sp] [32] true _ e (λ_=>rfl),X7v rs _ _ l,Q1u]
   | false=>
   cases m:decide (k=2)with
   | true=>
     have f:=g (.inl (G3e m))
     simp only[Q0b,Q0a]
     rw[Z8b ks [] [] true _ d (λst=>(Q7s st).symm),ems,ems,Q1u,Q1u,Z4b f,em,Q0t]
     cases decide (ks.length=0)with
     | true=>simp only[Q0b];rw[Q5s ws [.sp] [32] true _ e (λ_=>rfl),ems]
     | false=>simp only[Q0a];rw[Q5s ws [.sp] [32] true _ e (λ_=>rfl),ems,ems,em]
   | false=>
   cases decide (k=8)with
   | true=>simp only[Q0b,Q0a];rw[V5g ks _ d,ems,ems,Z4b (by simp),em,Q0t];rfl
   | false=>
   cases decide (k=11)with
   | true=>simp only[Q0b,Q0a];rw[V5g ks _ d,ems,ems,Z4b (by simp),em,Q0t];rfl
   | false=>
   cases o:decide (k=10)with
   | true=>
     have f:=g (.inr (.inl (G3e o)))
     simp only[Q0b,Q0a]
     rw[Z8b ks [] [] true _ d (λst=>(Q7s st).symm),Q5s ws [.sp] [32] false _ e (λ_=>rfl),ems,ems,ems,ems,ems,Q1u,ems,ems,Z4b (by simp),Z4b f,Z4b (by simp),em,em,em,em,Q0t,Q0t,Q0t,Q0t,Q0t]
     simp only[G0e,G1d,G0t]
   | false=>
   cases decide (k=17)with
   | true=>
     simp only[Q0b,Q0a]
     rw[Q5s ws [.sp] [32] false _ e (λ_=>rfl),K7b ks _ d,ems,Q1u,ems,ems,ems,Q1u,ems,ems,Z4b (by simp),em,em,em,em,Q0t]
     rfl
   | false=>
   cases p:decide (k=15)with
   | true=>
     have f:=g (.inr (.inr (G3e p)))
     simp only[Q0b,Q0a]
     rw[ems,ems,ems,Z4b f,Z4b (by simp),em,Q0t,Q0t]
     cases decide (ks.length=0)with
     | true=>simp only[Q0b];rw[ems];rfl
     | false=>simp only[Q0a];rw[Z1j ks _ d,ems,ems,ems,Q1u,ems,ems,em,em,em,em,Q0t,Q0t];rfl
   | false=>
     simp only[Q0a]
     rw[Q5s ws [.sp] [32] false _ e (λ_=>rfl),ems,Z4b (by simp)]
theorem Z1j:∀ (l:List Cmd) (st:St),nmCs l->pIts l st=ems (aIts l) st
 | [],_,_=>by rw[pIts,aIts,ems]
 | c::r,st,h=>by
   rw[nmCs]at h
   rw[pIts,aIts,Q1u,ems,V5k c _ h.1,Z1j r _ h.2,em]
theorem Z8b:∀ (l:List Cmd) (s:List Atm) (x:Str) (f:Bool) (st:St),nmCs l->(∀st,ems s st=put x st)->pJ l x f st=ems (aJ l s f) st
 | [],_,_,_,_,_,_=>by rw[pJ,aJ,ems]
 | c::r,s,x,f,st,h,hs=>by
   rw[nmCs]at h
   rw[pJ,aJ,Q1u,Q1u,V5k c _ h.1,Z8b r s x false _ h.2 hs]
   cases f with
   | true=>rfl
   | false=>simp only[Q0a];rw[hs]
theorem V5g:∀ (l:List Cmd) (st:St),nmCs l->pT l st=ems (aT l) st
 | [],_,_=>by rw[pT,aT,ems]
 | c::r,st,h=>by
   rw[nmCs]at h
   rw[pT,aT,Y5f c _ h.1,Z8b r [] [] true _ h.2 (λst=>(Q7s st).symm),ems,Q1u,ems,ems,em,em,em,Q0t]
   rfl
theorem Y5f:∀ (c:Cmd) (st:St),nmC c->pK c st=ems (aK c) st
 | ⟨k,a,nm,ws,rs,ks⟩,st,h=>by
   rw[nmC]at h
   rw[pK,aK,Z1j ks _ h.2.2.2]
theorem V5j:∀ (c:Cmd) (st:St),nmC c->pCa c st=ems (aCa c) st
 | ⟨k,a,nm,ws,rs,ks⟩,st,h=>by
   rw[nmC]at h
   rw[pCa,aCa,Z1j ks _ h.2.2.2,Q5s ws [.sp] [32] false _ h.2.1 (λ_=>rfl),ems,Q1u,ems,Z4b (by simp),em]
theorem K7b:∀ (l:List Cmd) (st:St),nmCs l->pCs l st=ems (aCs l) st
 | [],_,_=>by rw[pCs,aCs,ems]
 | c::r,st,h=>by
   rw[nmCs]at h
   rw[pCs,aCs,Q1u,V5j c _ h.1,K7b r _ h.2]
theorem Y5e:∀ (d:Redir) (st:St),nmR d->pR d st=ems (aR d) st
 | ⟨k,fd,a,w,raw⟩,st,h=>by
   rw[nmR]at h
   rw[pR,aR]
   cases decide (k=1)with
   | true=>simp only[Q0b];rw[K3o w _ h,ems,ems,em,em,Q0t];rfl
   | false=>
   cases decide (k=2)with
   | true=>simp only[Q0b,Q0a];rw[K3o w _ h,ems,ems,em,em,Q0t];rfl
   | false=>
   cases decide (k=3)with
   | true=>simp only[Q0b,Q0a];rw[K3o w _ h,ems,ems,em,em,Q0t];rfl
   | false=>
   cases decide (k=5)with
   | true=>rfl
   | false=>
   cases decide (k=6)with
   | true=>rfl
   | false=>rfl
theorem X7v:∀ (l:List Redir) (f:Bool) (st:St),nmRs l->pRs l f st=ems (aRs l f) st
 | [],_,_,_=>by rw[pRs,aRs,ems]
 | d::r,f,st,h=>by
   rw[nmRs]at h
   rw[pRs,aRs,Q1u,Q1u,Y5e d _ h.1,X7v r false _ h.2]
   cases f<;>rfl
end
def pend(l:List Redir):Str:=l.flatMap λr=>r.word_.text_++(mark r.word_.text_++[10])
def okD(l:List Redir):Prop:=∀r∈l,r.word_.text_.length<=2000
abbrev PS:=Sim pend okD
theorem Z7y(r:Redir)(l:List Redir):pend (r::l)=(r.word_.text_++(mark r.word_.text_++[10]))++pend l:=G4m ..
theorem K3n(a b:List Redir):pend (a++b)=pend a++pend b:=List.flatMap_append ..
theorem J3d:∀l:List Redir,l.length<=(pend l).length
 | []=>G0r _
 | r::l=>by
   have:=J3d l
   rw[Z7y]
   simp only[G0g,G0i,G0z]
   omega
theorem V4a(s b:Str)(l:List Redir)(h:b.length+s.length<=140737488355328):F123 s b l=some ((s.length:Int),b++s):=by
 rw[F123,F163,G0a,apS,if_pos h]
 rfl
theorem Z1y(ts:List Str)(b:Str)(l:List Redir)(e:ts.length<=1000)(h:b.length+ts.flatten.length<=1000000000):F103 ts b l=some (b++ts.flatten):=by
 rw[F103,Z1k (body:=X0i ts l) ts (λw _ k s=>(F123 w s l).bind λx=>k x.2) (λs=>some s) (λf i s=>rfl) (by omega)]
 have a:∀ (r:List Str) (i:Int) (s:Str),s.length+r.flatten.length<=1000000000->Q3o (λ(w:Str) (_:Int) (k:Str->Option Str) (s:Str)=>(F123 w s l).bind λx=>k x.2) (λs=>some s) r i s=some (s++r.flatten):=by
  intro r
  induction r with
  | nil=>intro i s _;rw[Q3o,G3k,G0n]
  | cons w r d=>
    intro i s hs
    rw[G2o,G0g]at hs
    rw[Q3o,V4a _ _ _ (by omega),G0a]
    rw[d (i+1) (s++w) (by rw[G0g];omega),G2o,G0e]
 exact a ts 0 b h
theorem Q0o(ts:List Str)(a:ts.length<=1000:=by simp):App (pd:=pend) (ok:=okD) (F103 ts) ts.flatten:=by
 intro b l _ h
 refine Z1y ts b l a ?_
 unfold sz LIM at h
 simp only at h
 omega
theorem Y4l(t:Str)(c:UInt8)(f:t.length<=1000000000):F108 t [c]=some (decide (t.getLast?=some c)):=by
 rw[F108,F155]
 cases d:t with
 | nil=>rfl
 | cons a s=>
   rw[<-d]
   have g:0<t.length:=by rw[d];simp
   have e:decide (((([c]:Str).length:Nat):Int)<=(t.length:Int))=true:=G0h (by simp;omega)
   rw[e,Q0f,Q0j (by simp;omega) (by simp;omega),Q0n,if_pos (by simp;omega),G0a,G0a,G0x]
   congr 1
   refine G1e.2 ?_
   rw[show((t.length:Int)-((([c]:Str).length:Nat):Int)).toNat=t.length-1 by first|(simp;done)|(simp;omega),show((t.length:Int)).toNat-(t.length-1)=1 by first|(simp;done)|(simp;omega)]
   rw[G5o,Q1v (show t.length-1<t.length by omega),G0f (by omega),G3w,G6k]
   simp
theorem V6c(a:List Redir)(hd:okD a)(m:a.length<=1000000000)(b:Str)(hb:b.length+(pend a).length<=1000000000):iter (X3d a) BIG (0,b)=some (b++pend a,[]):=by
 rw[Z1k (body:=X3d a) a (λu _ k s=>(F109 u.word_.text_).bind λr=>(F103 [u.word_.text_,r,[10]] s a).bind λo=>k o) (λs=>some (s,[])) (λp i s=>rfl) (by omega)]
 have f:∀ (r:List Redir) (i:Int) (s:Str),okD r->s.length+(pend r).length<=1000000000->
  Q3o (λ(u:Redir) (_:Int) (k:Str->Option (Str×List Redir)) (s:Str)=>(F109 u.word_.text_).bind λr=>(F103 [u.word_.text_,r,[10]] s a).bind λo=>k o) (λs=>some (s,[])) r i s=some (s++pend r,[]):=by
  intro r
  induction r with
  | nil=>intro i s _ _;rw[Q3o,pend,List.flatMap_nil,G0n]
  | cons w r g=>
    intro i s d hs
    have q:=d w (G1g ..)
    have e:[w.word_.text_,mark w.word_.text_,[10]].flatten=w.word_.text_++(mark w.word_.text_++[10]):=by simp
    rw[Z7y]at hs |-
    rw[G0g]at hs
    rw[Q3o,K2k _ (by omega),G0a,Z1y _ _ _ (by simp) (by rw[e];omega),G0a,e]
    rw[g (i+1) _ (λx l=>d x (G1l _ l)) (by rw[G0g];omega),G0e]
 exact f a 0 b hd hb
theorem K4w(b:Str):(endl b).length<=b.length+1:=by
 unfold endl
 cases decide (b.getLast?=some 92)<;>simp
theorem X1r:PS F67 nl 2:=by
 intro b l e a
 have g:=J3d l
 have m:=K4w b
 unfold sz LIM at a
 simp only at a
 refine⟨[],?_,rfl,λr f=>absurd f (G2r),?_⟩
 ·rw[F67,F36,G0a,Y4l b 92 (by omega),G0a]
  have d:∀x:Str,x.length<=b.length+1->J1x l x=some (x++(10::pend l),[]):=λx o=>by
   rw[J1x,Z1y _ _ _ (by simp) (by simp;omega),G0a,V6c l e (by omega) _ (by simp;omega)]
   simp
  unfold nl endl
  cases decide (b.getLast?=some 92)with
  | false=>rw[Q0a,Q0a];exact d b (by omega)
  | true=>rw[Q0b,Q0b,Z1y _ _ _ (by simp) (by simp;omega),G0a];exact d _ (by simp)
 unfold sz nl
 simp only[G0g,G0i,G0z]
 omega
theorem X9x:∀ (t:Str) (k:Nat) (d a:Str),k=t.length->(∀x,a.head?=some x->B x≠49)->qrun true (t++d) (List.replicate k 49++a)=dbl t++39::qrun false d a
 | [],k,d,a,hk,h=>by
   subst hk
   rw[G0z,List.replicate_zero,G0t,G0t,dbl,G0t]
   cases d with
   | nil=>cases a<;>rfl
   | cons c d=>cases a with
     | nil=>rfl
     | cons x a=>
       rw[qrun,qrun,G0b (h x rfl)]
       rfl
 | c::t,k,d,a,hk,h=>by
   subst hk
   rw[G0i,G3g,G1d,G1d,qrun,X9x t t.length d a rfl h,dbl]
   have:decide (B 49=49)=true:=rfl
   rw[this,Q0b,Q0b]
   cases decide (B c=39)<;>rfl
theorem X2p:∀ (t:Str) (x:UInt8) (k:Nat) (a d:Str),B x≠49->k=t.length->qrun false (t++a) (List.replicate k x++d)=t++qrun false a d
 | [],x,k,a,d,e,hk=>by
   subst hk
   rfl
 | c::t,x,k,a,d,e,hk=>by
   subst hk
   rw[G0i,G3g,G1d,G1d,qrun,G0b e,Q0a,Q0a,X2p t x t.length a d e rfl]
   rfl
theorem b49{x:UInt8}(h:B x=49):x=49:=G3e ((Q4v x 49).symm.trans (G0h (show((x.toNat:Nat):Int)=((49:UInt8).toNat:Int) from h)))
def X2e(w:Word)(i:Nat)(a:Str)(d:List Redir)(e:(Int×Str)->Option Str)(m:Int):Option Str:=
 (Q0n w.text_ (i:Int) m).bind λf=>
 (sidx w.quoted_ (i:Int)).bind λg=>
 (bif decide (g=49)then
  (Q2p f [39] [39,39]).bind λl=>
  (catO [39] l).bind λo=>
  (catO o [39]).bind λp=>
  (F103 [p] a d).bind λq=>
  e (m,q)
 else
  (F103 [f] a d).bind λt=>
  e (m,t))
theorem X8h(w:Word)(hq:w.quoted_.length=w.text_.length)(x:w.text_.length<=1000000)(i:Nat)(y:i<w.text_.length)(f:Str)(g:List Redir)(l:(Int×Str)->Option Str):
 ∀ (n e:Nat),i<=e->e<=w.text_.length->w.text_.length-e<n->(∀j,i<=j->j<e->w.quoted_[j]?=w.quoted_[i]?)->
  ∃m:Nat,i<m/\m<=w.text_.length/\(∀j,i<=j->j<m->w.quoted_[j]?=w.quoted_[i]?)/\(m<w.text_.length->w.quoted_[m]?≠w.quoted_[i]?)/\
   iter (Z4s w (i:Int) f g l) n (e:Int)=X2e w i f g l (m:Int)
 | 0,e,_,_,h,_=>by omega
 | n+1,e,z,t,C,o=>by
   show ∃m:Nat,i<m/\m<=w.text_.length/\(∀j,i<=j->j<m->w.quoted_[j]?=w.quoted_[i]?)/\(m<w.text_.length->w.quoted_[m]?≠w.quoted_[i]?)/\Z4s w (i:Int) f g l (iter (Z4s w (i:Int) f g l) n) (e:Int)=_
   have hs:∀j,j<w.text_.length->∃h:j<w.quoted_.length,w.quoted_[j]?=some w.quoted_[j]:=λj u=>⟨by omega,G0f (by omega)⟩
   rw[Z4s]
   by_cases A:e<w.text_.length
   ·rw[G0h (p:=((e:Int)<(w.text_.length:Int))) (by omega),Q0f,Q0f,Q4s (by omega),G0a,Q4s (by omega),G0a,G0x]
    by_cases d:w.quoted_[e]?=w.quoted_[i]?
    ·have q:w.quoted_[e]=w.quoted_[i]:=by
      rw[G0f (by omega),G0f (by omega)]at d
      exact G3p d
     rw[G0h (by rw[q]),Q0b,Q0j (by omega) (by omega)]
     exact X8h w hq x i y f g l n (e+1) (by omega) (by omega) (by omega) (λj a b=>by
      by_cases u:j=e
      ·subst u;exact d
      exact o j a (by omega))
    have q:¬ ((w.quoted_[e].toNat:Int)=(w.quoted_[i].toNat:Int)):=λh=>d (by
     rw[G0f (by omega),G0f (by omega)]
     rw[G8q.1 (Int.ofNat_inj.1 h)])
    rw[G0b q,Q0a]
    refine⟨e,?_,t,o,λ_=>d,?_⟩
    ·rcases Nat.lt_or_eq_of_le z with h|h
     ·exact h
     subst h;exact absurd rfl d
    rw[X2e,Q4s (show i<w.quoted_.length by omega)]
   rw[G0b (p:=((e:Int)<(w.text_.length:Int))) (by omega)]
   refine⟨e,by omega,t,o,λh=>absurd h A,?_⟩
   rw[X2e]
   rfl
theorem V4v(q:Str)(x:UInt8)(i m:Nat)(a:m<=q.length)(h:∀j,i<=j->j<m->q[j]?=some x)(d:i<=m):q.drop i=List.replicate (m-i) x++q.drop m:=by
 apply G4n
 intro k
 rw[G2e]
 by_cases hk:k<m-i
 ·rw[G0q (by rw[G1z];exact hk),G8h,if_pos hk,h (i+k) (by omega) (by omega)]
 rw[G0w (by rw[G1z];omega),G1z,G2e]
 congr 1
 omega
theorem J2x:∀ (o:Bool) (t q:Str),(qrun o t q).length<=4 * t.length+1
 | o,[],q=>by cases o<;>cases q<;>simp[qrun]
 | o,c::t,[]=>by cases o<;>simp[qrun]
 | o,c::t,x::q=>by
   have a:=J2x true t q
   have d:=J2x false t q
   rw[qrun]
   cases decide (B x=49)<;>cases o<;>cases decide (B c=39)<;>simp<;>omega
theorem X1y(w:Word)(hq:w.quoted_.length=w.text_.length)(t:w.text_.length<=1000000)(d:List Redir):
 ∀ (n i:Nat) (e:Str),i<=w.text_.length->w.text_.length-i<n->e.length+(qrun false (w.text_.drop i) (w.quoted_.drop i)).length<=1000000000->
  iter (Z1x w d) n ((i:Int),e)=some (e++qrun false (w.text_.drop i) (w.quoted_.drop i))
 | 0,i,_,_,h,_=>by omega
 | n+1,i,e,V,W,f=>by
   show Z1x w d (iter (Z1x w d) n) ((i:Int),e)=_
   rw[Z1x]
   by_cases E:i<w.text_.length
   ·rw[G0h (by omega),Q0b]
    obtain⟨m,Y,F,H,I,J⟩:=X8h w hq t i E e d (iter (Z1x w d) n) BIG i (G0r _) (by omega) (by unfold BIG;omega) (λj a b=>by omega)
    rw[J,X2e]
    have u:w.quoted_[i]?=some (w.quoted_[i]'(by omega)):=G0f (by omega)
    have x:=V4v w.quoted_ (w.quoted_[i]'(by omega)) i m (by omega) (λj a b=>by rw[H j a b,u]) (by omega)
    have z:w.text_.drop i=(w.text_.drop i).take (m-i)++w.text_.drop m:=by
     have:=(G2t (m-i) (w.text_.drop i)).symm
     rw[G8a,show i+(m-i)=m by omega]at this
     exact this
    have g:((w.text_.drop i).take (m-i)).length=m-i:=by rw[G1v,G1w];omega
    have K:Q0n w.text_ (i:Int) (m:Int)=some ((w.text_.drop i).take (m-i)):=by
     rw[Q0n,if_pos (by omega)]
     rfl
    rw[K,G0a,Q4s (by omega),G0a]
    generalize hT:(w.text_.drop i).take (m-i)=T at *
    have L:(((w.quoted_[i]'(by omega)).toNat:Nat):Int)=B (w.quoted_[i]'(by omega)):=rfl
    rw[L]
    generalize hX:(w.quoted_[i]'(by omega))=X at *
    have A:=λl h=>X1y w hq t d n m l F (by omega) h
    by_cases o:B X=49
    ·have C:X=49:=b49 o
     have M:∀y,(w.quoted_.drop m).head?=some y->B y≠49:=λy p=>by
      rw[List.head?_drop]at p
      by_cases O:m<w.text_.length
      ·have:=I O
       rw[u,p]at this
       intro hb
       apply this
       rw[b49 hb,C]
      rw[G2c (by omega)]at p
      exact absurd p (by simp)
     have q:qrun false (w.text_.drop i) (w.quoted_.drop i)=39::(dbl T++39::qrun false (w.text_.drop m) (w.quoted_.drop m)):=by
      rw[z,x,C,<-X9x T (m-i) _ _ g.symm M]
      have Q:T≠[]:=λh=>by rw[h]at g;simp at g;omega
      have U:m-i=(m-i-1)+1:=by omega
      rw[U,G3g,G1d]
      cases T with
      | nil=>exact absurd rfl Q
      | cons c T=>
        rw[G1d,qrun,qrun]
        rfl
     rw[q]at f |-
     simp only[G0i,G0g]at f
     have hd:=X9y T
     rw[G0h o,Q0b,Z9j (by omega),G0a,Z4e (by simp;omega),G0a,Z4e (by simp;omega),G0a,Z1y _ _ _ (by simp) (by simp;omega),G0a,A _ (by simp;omega)]
     simp
    have q:qrun false (w.text_.drop i) (w.quoted_.drop i)=T++qrun false (w.text_.drop m) (w.quoted_.drop m):=by
     rw[z,x,X2p T X (m-i) _ _ o g.symm]
    rw[q]at f |-
    simp only[G0g]at f
    rw[G0b o,Q0a,Z1y _ _ _ (by simp) (by simp;omega),G0a,A _ (by simp;omega)]
    simp
   rw[G0b (by omega),Q0a,G2f (by omega),G2f (by omega)]
   rw[qrun]
   ·simp
   simp
theorem K6d(w:Word)(hq:w.quoted_.length=w.text_.length)(f:w.text_.length<=1000000):App (pd:=pend) (ok:=okD) (F190 w) (Q5q w.text_ w.quoted_):=by
 intro b l _ h
 unfold sz LIM at h
 simp only at h
 have d:∀x:Str,x.length+(qrun false w.text_ w.quoted_).length<=1000000000->Z4r w l x=some (x++qrun false w.text_ w.quoted_):=λx g=>by
  rw[Z4r]
  exact X1y w hq f l BIG 0 x (G1t _) (by unfold BIG;omega) g
 rw[F190]
 unfold Q5q at h |-
 by_cases a:w.text_=[]
 ·have e:qrun false w.text_ w.quoted_=[]:=by
   rw[a,show w.quoted_=[] from G0u (by rw[hq,a];rfl)]
   rfl
  rw[G0h a,Q0b]at h |-
  rw[Q0b,Z1y _ _ _ (by simp) (by simp at h |-;omega),G0a,d _ (by rw[e];simp at h |-;omega),e]
  simp
 rw[G0b a,Q0a]at h |-
 rw[Q0a]
 exact d b (by omega)
def ordB(c:UInt8):Bool:=!Lx.SYMI.contains c
def okTQ:Str->Str->Bool
 | [],q=>decide (q=[])
 | c::t,q=>match q with
   | []=>false
   | x::q=>(decide (x=49)||(decide (x=48)&&ordB c))&&okTQ t q
theorem Z6o{q:Str}(h:okTQ [] q=true):q=[]:=G3e h
theorem Q4p{c:UInt8}{t q:Str}(h:okTQ (c::t) q=true):∃x a,q=x::a/\(x=49\/(x=48/\ordB c=true))/\okTQ t a=true:=by
 cases q with
 | nil=>cases h
 | cons x q=>
   rw[okTQ,G0d,G2d,G0d,G0l,G0l]at h
   exact⟨x,q,rfl,h.1,h.2⟩
theorem X7y{c x:UInt8}{t q:Str}(h:x=49\/(x=48/\ordB c=true))(a:okTQ t q=true):okTQ (c::t) (x::q)=true:=by
 rw[okTQ,G0d,G2d,G0d,G0l,G0l]
 exact⟨h,a⟩
def endW(u:Str):Prop:=∀c,u.head?=some c->Lx.SYMI.contains c=true/\c≠39
theorem V0k{u:Str}(h:endW u):Lx.ord u=false:=by
 cases u with
 | nil=>rfl
 | cons c r=>
   rw[Lx.ord,(h c rfl).1]
   rfl
theorem K6l{u:Str}(h:endW u)(k:Nat):Lx.wd k u=.ok ([],[],0):=by
 cases k with
 | zero=>rfl
 | succ k=>
   cases u with
   | nil=>rfl
   | cons c r=>
     rw[Lx.wd,V0k h,Q0a,if_neg (h c rfl).2]
theorem X1n:∀ (t q:Str),okTQ t q=true->q.length=t.length
 | [],q,h=>by rw[Z6o h]
 | c::t,q,h=>by
   obtain⟨x,a,rfl,-,d⟩:=Q4p h
   simp[X1n t a d]
theorem Q5t{c d:UInt8}(h:ordB c=true)(hd:Lx.SYMI.contains d=true):c≠d:=by
 intro e
 subst e
 rw[ordB,hd]at h
 cases h
theorem d48:decide (B 48=49)=false:=rfl
theorem d49:decide (B 49=49)=true:=rfl
theorem Z6m(c:UInt8)(t q:Str):qrun true (c::t) (48::q)=39::qrun false (c::t) (48::q):=by
 rw[qrun,qrun,d48]
 rfl
theorem Q4c(c:UInt8)(t q:Str):qrun false (c::t) (48::q)=c::qrun false t q:=by
 rw[qrun,d48]
 rfl
theorem Q7q(c:UInt8)(t q:Str):qrun false (c::t) (49::q)=39::qrun true (c::t) (49::q):=by
 rw[qrun,qrun,d49]
 rfl
theorem Z6l(c:UInt8)(t q:Str):qrun true (c::t) (49::q)=c::((bif decide (c=39)then[39]else[])++qrun true t q):=by
 rw[qrun,d49,Lx.B39]
 rfl
theorem Q7p(o:Bool)(q:Str):qrun o [] q=bif o then[39]else[]:=by
 cases q<;>rfl
theorem K9t(t q:Str):∃d r,qrun true t q=d::r:=by
 cases t with
 | nil=>exact⟨39,[],Q7p true q⟩
 | cons c t=>
   cases q with
   | nil=>exact⟨39,[],rfl⟩
   | cons x q=>
     rw[qrun]
     cases decide (B x=49)with
     | true=>exact⟨_,_,rfl⟩
     | false=>exact⟨_,_,rfl⟩
theorem K7p{u:Str}(h:endW u):([39]:Str).isPrefixOf u=false:=by
 cases u with
 | nil=>rfl
 | cons c r=>exact Lx.pre_ne (h c rfl).2
theorem qd_t:∀ (t q:Str),okTQ t q=true->∀ (u:Str),endW u->∃ (a b f c2:Str),Lx.qd (qrun true t q++u)=some (a,b.length)/\t=a++f/\q=List.replicate a.length 49++c2/\okTQ f c2=true/\qrun true t q=b++qrun false f c2/\(f≠[]->∃H,c2=48::H)/\a.length<=t.length
 | [],q,h,u,m=>by
   have e:=Z6o h
   subst e
   refine⟨[],[39],[],[],?_,rfl,rfl,rfl,rfl,λh=>absurd rfl h,G0r _⟩
   rw[Q7p,Q0b]
   exact Lx.qd_shut (K7p m)
 | c::t,q,h,u,m=>by
   obtain⟨x,g,rfl,o,I⟩:=Q4p h
   rcases o with rfl|⟨rfl,o⟩
   ·obtain⟨a,b,f,c2,p,y,z,A,C,E,F⟩:=qd_t t g I u m
    rw[Z6l]
    by_cases l:c=39
    ·subst l
     refine⟨39::a,39::39::b,f,c2,?_,by rw[y];rfl,by rw[z];rfl,A,?_,E,by simpa using F⟩
     ·show Lx.qd (39::39::(qrun true t g++u))=_
      rw[Lx.qd_two,p]
      rfl
     show 39::39::qrun true t g=_
     rw[C]
     rfl
    refine⟨c::a,c::b,f,c2,?_,by rw[y];rfl,by rw[z];rfl,A,?_,E,by simpa using F⟩
    ·rw[G0b l,Q0a,G0t,G1d]
     obtain⟨d,r,J⟩:=K9t t g
     rw[J,G1d]at p |-
     rw[Lx.qd,if_neg l,p]
     rfl
    rw[G0b l,Q0a,G0t,C]
    rfl
   refine⟨[],[39],c::t,48::g,?_,rfl,rfl,h,?_,λ_=>⟨g,rfl⟩,G1t _⟩
   ·rw[Z6m,G1d]
    refine Lx.qd_shut ?_
    rw[Q4c,G1d]
    exact Lx.pre_ne (Q5t o (by decide))
   rw[Z6m]
   rfl
def Q2z:Str->Str->Option UInt8
 | [],_=>none
 | c::t,q=>match q with
   | []=>none
   | x::q=>if t=[]then(if x=49 then none else some c)else Q2z t q
theorem J1h:∀ (a d:Str) (e c2:Str),e.length=a.length->d≠[]->Q2z (a++d) (e++c2)=Q2z d c2
 | [],d,e,c2,h,_=>by
   rw[G1q.1 h]
   rfl
 | x::a,d,[],c2,h,_=>by simp at h
 | x::a,d,y::e,c2,h,f=>by
   rw[G1d,G1d,Q2z,if_neg (by simp[f])]
   exact J1h a d e c2 (by simpa using h) f
theorem V5l{c:UInt8}{r:Str}(h:ordB c=true)(f:c=92->r.head?≠some 10):Lx.ord (c::r)=true:=by
 rw[ordB]at h
 rw[Lx.ord,h,G0x]
 by_cases a:c=92
 ·subst a
  cases r with
  | nil=>rfl
  | cons d r=>
    have:d≠10:=λe=>f rfl (by rw[e];rfl)
    rw[Lx.pre_cons,G0h rfl,G0x,Lx.pre_ne this]
    rfl
 rw[Lx.pre_ne a]
 rfl
theorem Z7n{t q:Str}(h:okTQ t q=true)(d:t≠[])(u:Str):(qrun false t q++u).head?≠some 10:=by
 cases t with
 | nil=>exact absurd rfl d
 | cons c t=>
   obtain⟨x,e,rfl,a,f⟩:=Q4p h
   rcases a with rfl|⟨rfl,a⟩
   ·rw[Q7q,G1d]
    simp
   rw[Q4c,G1d]
   simp only[List.head?_cons,ne_eq,G0c]
   exact Q5t a (by decide)
theorem wd_f:∀ (k:Nat) (t q:Str),okTQ t q=true->∀ (u:Str),endW u->(Q2z t q=some 92->u.head?≠some 10)->(qrun false t q++u).length<=k->Lx.wd k (qrun false t q++u)=.ok (t,q,(qrun false t q).length)
 | k,[],q,f,u,g,_,_=>by
   have e:=Z6o f
   subst e
   rw[Q7p,Q0a,G0t,K6l g]
   rfl
 | 0,c::t,q,f,u,g,o,hk=>by
   exfalso
   obtain⟨x,l,rfl,m,z⟩:=Q4p f
   rcases m with rfl|⟨rfl,m⟩
   ·rw[Q7q]at hk;simp at hk
   rw[Q4c]at hk;simp at hk
 | k+1,c::t,q,f,u,g,o,hk=>by
   obtain⟨x,l,rfl,m,z⟩:=Q4p f
   rcases m with rfl|⟨rfl,m⟩
   ·obtain⟨a,b,p,c2,J,F,H,K,A,M,O⟩:=qd_t (c::t) (49::l) f u g
    rw[Q7q]at hk |-
    rw[G1d,Lx.wd]
    have C:Lx.ord (39::(qrun true (c::t) (49::l)++u))=false:=rfl
    rw[C,Q0a,if_pos rfl,J]
    have L:(qrun true (c::t) (49::l)++u).drop b.length=qrun false p c2++u:=by
     rw[A,G0e,G3x]
     rfl
    have E:=wd_f k p c2 K u g (λd=>by
     refine o ?_
     by_cases y:p=[]
     ·rw[y,Q2z]at d;cases d
     rw[F,H,J1h a p _ c2 (by simp) y]
     exact d) (by rw[A]at hk;simp only[G0i,G0g]at hk |-;omega)
    dsimp only
    rw[L,E]
    dsimp only
    rw[A,F,H]
    simp only[G0g,G0i]
    congr 3
    omega
   rw[Q4c]at hk |-
   rw[G1d,Lx.wd]
   have C:Lx.ord (c::(qrun false t l++u))=true:=V5l m (λy=>by
    subst y
    by_cases I:t=[]
    ·subst I
     rw[Q7p,Q0a,G0t]
     refine o ?_
     rw[Q2z,if_pos rfl,if_neg (by decide)]
    exact Z7n z I u)
   rw[C,Q0b]
   have E:=wd_f k t l z u g (λd=>by
    refine o ?_
    have:t≠[]:=λe=>by rw[e,Q2z]at d;cases d
    rw[Q2z,if_neg this]
    exact d) (by simp only[G1d,G0i]at hk;omega)
   rw[E]
   rfl
def dA:Atm->St->Str
 | .w t q,_=>Q5q t q
 | .v n,_=>36::n
 | .k n,_=>36::35::n
 | .s x,_=>x
 | .h raw t,_=>60::60::(qraw raw++mark t++qraw raw)
 | .sp,_=>[32]
 | .nl,st=>(bif decide (st.1.getLast?=some 92)then[32]else[])++10::st.2
theorem Z2x(a:Atm)(st:St):(em a st).1=st.1++dA a st:=by
 cases a with
 | nl=>
   show endl st.1++(10::st.2)=_
   rw[endl,dA]
   cases decide (st.1.getLast?=some 92)<;>simp
 | h raw t=>
   show st.1++_=_
   rw[dA]
   simp
 | _=>rfl
def em2:Atm->Str->Str
 | .h _ t,d=>d++(t++(mark t++[10]))
 | .nl,_=>[]
 | _,d=>d
theorem Z2w(a:Atm)(st:St):(em a st).2=em2 a st.2:=by cases a<;>rfl
def dl:List Atm->St->Str
 | [],_=>[]
 | a::r,st=>dA a st++dl r (em a st)
theorem X9t:∀ (l:List Atm) (st:St),(ems l st).1=st.1++dl l st
 | [],st=>by rw[ems,dl,G0n]
 | a::r,st=>by rw[ems,X9t r,Z2x,dl,G0e]
def zr(n:Nat):Str:=List.replicate n 48
def pA:Atm->St->Nat
 | .nl,st=>(endl st.1).length
 | _,st=>st.1.length
def tkA:Atm->Nat->List Token
 | .w t q,p=>[⟨1,p,t,q⟩]
 | .v n,p=>[⟨2,p,[36],[]⟩,⟨1,((p+1:Nat):Int),n,zr n.length⟩]
 | .k n,p=>[⟨2,p,[36,35],[]⟩,⟨1,((p+2:Nat):Int),n,zr n.length⟩]
 | .s x,p=>[⟨2,p,x,[]⟩]
 | .h raw t,p=>[⟨4,p,mark t,List.replicate (mark t).length (bif raw then 49 else 48)⟩]
 | .sp,_=>[]
 | .nl,p=>[⟨3,p,[10],[]⟩]
def tks:List Atm->St->List Token
 | [],_=>[]
 | a::r,st=>tkA a (pA a st)++tks r (em a st)
structure SymF(x:Str):Prop where
 sym:∀u,Lx.sym (x++u)=.ok x
 h60:x.head?≠some 60
structure SymS(x:Str):Prop where
 sym:∀u,Lx.sym (x++32::u)=.ok x
 h60:∀u,([60,60]:Str).isPrefixOf (x++32::u)=false
def isSp:List Atm->Bool
 | .sp::_=>true
 | _=>false
def isNl:List Atm->Bool
 | .nl::_=>true
 | _=>false
def endA:List Atm->Bool
 | []=>true
 | .sp::_=>true
 | .nl::_=>true
 | .s (c::_)::_=>([41,94,61,40]:Str).contains c
 | _=>false
def nmL(n:Str):Prop:=n≠[]/\∀c∈n,Lx.nameB c=true
def hdW:Str->Str->Bool
 | c::_,x::_=>decide (x=49)||!([35,33,64]:Str).contains c
 | _,_=>true
def okA:Atm->Prop
 | .w t q=>okTQ t q=true/\hdW t q=true
 | .v n=>nmL n
 | .k n=>nmL n
 | .s x=>∃c r,x=c::r/\c≠32/\c≠9/\c≠10/\c≠35/\c≠92/\x≠[36]/\x≠[36,35]
 | .h _ t=>t=[]\/t.getLast?=some 10
 | .sp=>True
 | .nl=>True
def nxA:Atm->List Atm->Prop
 | .s x,r=>SymF x\/(SymS x/\isSp r=true)\/(x=[38]/\isNl r=true)
 | .sp,r=>isSp r=false/\isNl r=false/\r≠[]
 | .nl,_=>True
 | _,r=>endA r=true
def tcA:Atm->Bool
 | .w _ _=>true
 | .v _=>true
 | .k _=>true
 | .s (c::_)=>([36,96]:Str).contains c
 | _=>false
def wdA:Atm->Bool
 | .w _ _=>true
 | .v _=>true
 | .k _=>true
 | _=>false
def WF:Bool->List Atm->Prop
 | _,[]=>True
 | g,a::r=>okA a/\nxA a r/\(g=true->tcA a=false)/\WF (wdA a) r
theorem V2i:∀c:UInt8,([41,94,61,40]:Str).contains c=true->Lx.SYMI.contains c=true/\c≠39/\c≠10:=by
 intro c h
 simp only[G3j,G4b,G3l,G2d,G3o]at h
 rcases h with rfl|rfl|rfl|rfl<;>exact⟨rfl,by decide,by decide⟩
theorem J3r{r:List Atm}(h:endA r=true)(st:St):endW (dl r st):=by
 intro c a
 match r,h with
 | [],_=>cases a
 | .sp::r,_=>
   rw[dl,dA]at a
   cases a
   exact⟨rfl,by decide⟩
 | .nl::r,_=>
   rw[dl,dA]at a
   cases f:decide (st.1.getLast?=some 92)with
   | true=>
     rw[f]at a
     cases a
     exact⟨rfl,by decide⟩
   | false=>
     rw[f]at a
     cases a
     exact⟨rfl,by decide⟩
 | .s (d::x)::r,h=>
   rw[dl,dA]at a
   have e:d=c:=by simpa using a
   subst e
   obtain⟨g,l,-⟩:=V2i _ h
   exact⟨g,l⟩
theorem J0x{t q:Str}(h:okTQ t q=true):(Q5q t q).head?≠some 10/\∃c r,Q5q t q=c::r:=by
 rw[Q5q]
 by_cases a:t=[]
 ·rw[G0h a]
  exact⟨by simp,_,_,rfl⟩
 rw[G0b a,Q0a]
 have:=Z7n h a []
 rw[G0n]at this
 refine⟨this,?_⟩
 cases t with
 | nil=>exact absurd rfl a
 | cons c t=>
   obtain⟨x,e,rfl,d,f⟩:=Q4p h
   rcases d with rfl|⟨rfl,d⟩
   ·rw[Q7q];exact⟨_,_,rfl⟩
   rw[Q4c];exact⟨_,_,rfl⟩
theorem V0m{r:List Atm}(h:∀a e,r=a::e->okA a){st:St}(g:st.1.getLast?=some 92):(dl r st).head?≠some 10:=by
 cases r with
 | nil=>exact λh=>by cases h
 | cons a r=>
   have f:=h a r rfl
   rw[dl]
   cases a with
   | w t q=>
     obtain⟨d,c,e,l⟩:=J0x f.1
     rw[dA]
     rw[l]at d |-
     exact d
   | v n=>rw[dA];simp
   | k n=>rw[dA];simp
   | s x=>
     obtain⟨c,e,rfl,-,-,d,-⟩:=f
     rw[dA]
     simpa using d
   | h raw t=>rw[dA];simp
   | sp=>rw[dA];simp
   | nl=>rw[dA,g];simp
theorem Q5e{c:UInt8}{r:Str}(a:c≠32)(f:c≠9)(g:c=92->r.head?≠some 10):Lx.blankN (c::r)=0:=by
 cases r with
 | nil=>rw[Lx.blankN,if_neg (by simp[a,f])]
 | cons d r=>
   rw[Lx.blankN,if_neg (by simp[a,f]),if_neg]
   rintro⟨e,rfl⟩
   exact g e rfl
theorem K5j{c:UInt8}{r:Str}(h:Lx.blankN (c::r)=0):Lx.blankN (32::c::r)=1:=by
 rw[Lx.blankN,if_pos (.inl rfl),h]
theorem X0p{c:UInt8}{r:Str}(e:c≠38)(a:c≠124)(f:c≠36)(g:Lx.START.contains c=false)(d:c≠62)(l:c≠60):Lx.sym (c::r)=.ok []:=by
 rw[Lx.sym,Lx.symA,Lx.pre_ne e,Q0a,Lx.symA,Lx.pre_ne a,Q0a,Lx.symA,Lx.pre_ne f,Q0a,Lx.symA,g,Q0a,Lx.symB,Lx.pre_ne d,Q0a,Lx.symB,Lx.pre_ne d,Q0a,Lx.symB,Lx.pre_ne l,Q0a,Lx.symB,Lx.pre_ne a,Q0a,Lx.symB]
theorem J3h:∀ (n u:Str),(∀c∈n,Lx.nameB c=true)->(∀c,u.head?=some c->Lx.nameB c=false)->Lx.nameN (n++u)=n.length
 | [],u,_,h=>by
   cases u with
   | nil=>rfl
   | cons c r=>
     rw[G0t,Lx.nameN_cons,h c rfl]
     rfl
 | x::n,u,a,d=>by
   rw[G1d,Lx.nameN_cons,a x (G1g ..),Q0b,J3h n u (λc e=>a c (G1l _ e)) d]
   rfl
theorem J6u:∀c:UInt8,Lx.SYMI.contains c=true->Lx.nameB c=false:=by
 intro c h
 simp only[Lx.SYMI,G3j,G4b,G3l,G2d,G3o]at h
 rcases h with rfl|rfl|rfl|rfl|rfl|rfl|rfl|rfl|rfl|rfl|rfl|rfl|rfl|rfl|rfl|rfl|rfl<;>rfl
theorem Z5h(l:List Token)(u:Token):Lx.push l u=.error (u.at_,4)\/Lx.push l u=.ok (l++[u]):=by
 rw[Lx.push]
 split
 ·exact .inl rfl
 exact .inr rfl
theorem K4h(l:List Token)(u:Token){a:Bool}(h:Lx.hats u a=false):Lx.hat l u a=Lx.push l u:=by
 rw[Lx.hat,h]
 rfl
theorem Q8w(l:List Token)(u:Token):Lx.lastWord (l++[u])=decide (u.kind_=1):=by
 rw[Lx.lastWord,G4l]
theorem J1d(a:List Str):∀ (k n:Nat),(∃m,Z3w a k n=m/\a.any (λx=>decide (x=List.replicate m 69))=false)\/Z3w a k n=n+k
 | 0,n=>.inr rfl
 | k+1,n=>by
   rw[Z3w]
   cases e:a.any (λm=>decide (m=List.replicate n 69))with
   | false=>exact .inl ⟨n,rfl,e⟩
   | true=>
     rw[Q0b]
     rcases J1d a k (n+1)with h|h
     ·exact .inl h
     exact .inr (by rw[h];omega)
theorem X1w(t:Str):mark t∉Q0l 10 t:=by
 intro a
 rw[mark]at a
 rcases J1d (Q0l 10 t) (t.length+1) 1 with⟨m,e,h⟩|h
 ·rw[e]at a
  have:(Q0l 10 t).any (λx=>decide (x=List.replicate m 69))=true:=G4v.2 ⟨_,a,G0h rfl⟩
  rw[h]at this
  cases this
 rw[h]at a
 have:=Z2k t _ a
 rw[G1z]at this
 omega
theorem J5x(t:Str):(10:UInt8)∉mark t:=by
 rw[mark]
 intro h
 cases(G6u.1 h).2
theorem X1u(a:List Str):∀ (k n:Nat),n<=Z3w a k n
 | 0,n=>G0r _
 | k+1,n=>by
   rw[Z3w]
   cases a.any (λm=>decide (m=List.replicate n 69))with
   | false=>exact G0r _
   | true=>exact G3c (G6z n) (X1u a k (n+1))
theorem Q8u(t:Str):∃r,mark t=69::r/\∀c∈r,c=69:=by
 have:=X1u (Q0l 10 t) (t.length+1) 1
 rw[mark]
 cases h:Z3w (Q0l 10 t) (t.length+1) 1 with
 | zero=>omega
 | succ n=>exact⟨List.replicate n 69,rfl,λc a=>(G6u.1 a).2⟩
def Z6d(t:Str):Prop:=t=[]\/t.getLast?=some 10
theorem J6c{t:Str}(h:Z6d t)(g:t≠[]):∃a b,t=a++10::b/\(10:UInt8)∉a/\Z6d b:=by
 rcases h with h|h
 ·exact absurd h g
 have l:(10:UInt8)∈t:=List.mem_of_getLast? h
 rcases Lx.firstOf 10 t with d|⟨a,w,d,rfl⟩
 ·exact absurd l d
 refine⟨a,w,rfl,d,?_⟩
 by_cases f:w=[]
 ·exact .inl f
 refine .inr ?_
 obtain⟨L,z,rfl⟩:=G7j w |>.resolve_left f
 have e:a++10::(L++[z])=(a++10::L)++[z]:=by simp
 simp only[G7k]at h |-
 rw[e,G4l]at h
 rw[G4l]
 exact h
theorem K7r(e X:Str)(g:(10:UInt8)∉e):∀ (n:Nat) (t:Str) (k:Nat),t.length<=n->Z6d t->e∉Q0l 10 t\/t=[]->t.length<k->Lx.doc k e (t++(e++10::X))=some (t.length+(e.length+1))
 | n,t,0,_,_,_,h=>absurd h (G2q _)
 | n,t,k+1,l,o,p,hk=>by
   by_cases d:t=[]
   ·subst d
    rw[G0t,Lx.doc,if_neg (by simp),Lx.cut_at X g,if_pos rfl,Q0b]
    simp
   obtain⟨a,b,rfl,m,hb⟩:=J6c o d
   have f:e∉Q0l 10 (a++10::b):=p.resolve_right d
   rw[Z8a b a m,G1j,not_or]at f
   cases n with
   | zero=>simp at l
   | succ n=>
     rw[G0e,G1d,Lx.doc,if_neg (by simp),Lx.cut_at _ m,if_neg (λh=>f.1 h.symm)]
     simp only
     rw[K7r e X g n b k (by simp at l;omega) hb (.inl f.2) (by simp at hk;omega)]
     simp only[G1s,Q0b,G0g,G0i]
     congr 1
     omega
def Wt(d:Str)(a:List Str):Prop:=∃ts:List Str,(∀t∈ts,Z6d t)/\d=(ts.map λt=>t++(mark t++[10])).flatten/\a=ts.map mark
theorem Wt.nil:Wt [] []:=⟨[],λ_ h=>absurd h G2r,rfl,rfl⟩
theorem Wt.add{d:Str}{a:List Str}(h:Wt d a){t:Str}(e:Z6d t):Wt (d++(t++(mark t++[10]))) (a++[mark t]):=by
 obtain⟨ts,f,rfl,rfl⟩:=h
 refine⟨ts++[t],λx g=>?_,by simp,by simp⟩
 rcases G2z.1 g with h|h
 ·exact f x h
 rw[G1p.1 h];exact e
theorem X9v(X:Str):∀ (ts:List Str),(∀t∈ts,Z6d t)->Lx.docs (ts.map mark) ((ts.map λt=>t++(mark t++[10])).flatten++X)=.ok (ts.map λt=>t++(mark t++[10])).flatten.length
 | [],_=>rfl
 | t::ts,h=>by
   have a:=X9v X ts (λx d=>h x (G1l _ d))
   generalize hD:(ts.map λt=>t++(mark t++[10])).flatten=D at a
   have e:(((t::ts).map λt=>t++(mark t++[10])).flatten++X)=t++(mark t++10::(D++X)):=by
    rw[G2i,G2o,hD]
    simp
   have f:(((t::ts).map λt=>t++(mark t++[10])).flatten).length=t.length+((mark t).length+1)+D.length:=by
    rw[G2i,G2o,hD]
    simp only[G0g,G0i,G0z]
   rw[e,f,G2i,Lx.docs,K7r (mark t) _ (J5x t) t.length t _ (G0r _) (h t (G1g ..)) (.inl (X1w t)) (by simp;omega)]
   have g:(t++(mark t++10::(D++X))).drop (t.length+((mark t).length+1))=D++X:=by
    have:t++(mark t++10::(D++X))=(t++(mark t++[10]))++(D++X):=by simp
    rw[this]
    exact G3x (by simp)
   simp only
   rw[g,a]
def bsA(a:Bool):Str:=bif a then[32]else[]
theorem J8x(a:Bool)(t:Str):(bsA a++t).drop (bsA a).length=t:=G3x rfl
theorem Z8w{a:Bool}{c:UInt8}{r:Str}(h:Lx.blankN (c::r)=0):Lx.blankN (bsA a++c::r)=(bsA a).length:=by
 cases a with
 | false=>exact h
 | true=>exact K5j h
theorem K4a{k p:Nat}{a:Bool}{c:UInt8}{r:Str}{l:List Token}{d:List Str}(hb:Lx.blankN (c::r)=0)(f:c≠35)(g:c≠10)(o:([60,60]:Str).isPrefixOf (c::r)=false):
 Lx.lex (k+1) p (bsA a++c::r) l d=(match Lx.tok (p+(bsA a).length) (c::r) l (Lx.lastWord l&&decide ((bsA a).length=0))with
  | .error e=>.error e
  | .ok (q,m)=>Lx.lex k (p+(bsA a).length+m) ((c::r).drop m) q d):=by
 rw[Lx.lex,Z8w hb,J8x]
 simp only
 rw[G0b f,Q0a,G0b g,Q0a,o,Q0a]
 rfl
theorem Y5x{k p:Nat}{a:Bool}{r:Str}{l:List Token}{d:List Str}:
 Lx.lex (k+1) p (bsA a++10::r) l d=(match Lx.nls (p+(bsA a).length) (10::r) l d with
  | .error e=>.error e
  | .ok (f,m)=>Lx.lex k (p+(bsA a).length+m) ((10::r).drop m) f []):=by
 rw[Lx.lex,Z8w (Q5e (by decide) (by decide) (λh=>absurd h (by decide))),J8x]
 rfl
theorem Y5y{k p:Nat}{a:Bool}{r:Str}{l:List Token}{d:List Str}:
 Lx.lex (k+1) p (bsA a++60::60::r) l d=(match Lx.here (p+(bsA a).length) (60::60::r) l d with
  | .error e=>.error e
  | .ok (f,g,m)=>Lx.lex k (p+(bsA a).length+m) ((60::60::r).drop m) f g):=by
 rw[Lx.lex,Z8w (Q5e (by decide) (by decide) (λh=>absurd h (by decide))),J8x]
 rfl
def Ans(x:Except (Int×Int) (List Token))(l:List Token):Prop:=(∃q,x=.error (q,4))\/x=.ok l
theorem J1f:∀ (t q:Str) (z:UInt8),okTQ t q=true->Q2z t q=some z->∀o,(qrun o t q).getLast?=some z
 | [],q,z,_,h,_=>by rw[Q2z]at h;cases h
 | c::t,q,z,p,h,o=>by
   obtain⟨x,l,rfl,d,u⟩:=Q4p p
   rw[Q2z]at h
   by_cases m:t=[]
   ·subst m
    rw[if_pos rfl]at h
    rcases d with rfl|⟨rfl,d⟩
    ·rw[if_pos rfl]at h;cases h
    rw[if_neg (by decide)]at h
    cases h
    cases o with
    | false=>rw[Q4c,Q7p];rfl
    | true=>rw[Z6m,Q4c,Q7p];rfl
   rw[if_neg m]at h
   have f:∀ (a:Str) (o':Bool),(a++qrun o' t l).getLast?=some z:=λa o'=>by
    have g:=J1f t l z u h o'
    obtain⟨L,y,e⟩:=G7j (qrun o' t l) |>.resolve_left (λe=>by rw[e]at g;cases g)
    simp only[G7k]at e
    rw[e,G4l]at g
    rw[e,<-G0e,G4l]
    exact g
   rcases d with rfl|⟨rfl,d⟩
   ·cases o with
    | false=>
      rw[Q7q,Z6l]
      have:=f (39::c::(bif decide (c=39)then[39]else[])) true
      simpa using this
    | true=>
      rw[Z6l]
      have:=f (c::(bif decide (c=39)then[39]else[])) true
      simpa using this
   cases o with
   | false=>rw[Q4c];exact f [c] false
   | true=>rw[Z6m,Q4c];exact f [39,c] false
theorem wd_q{t q:Str}(d:okTQ t q=true){u:Str}(a:endW u)(g:Q2z t q=some 92->u.head?≠some 10):Lx.wd (Q5q t q++u).length (Q5q t q++u)=.ok (t,q,(Q5q t q).length):=by
 rw[Q5q]
 by_cases f:t=[]
 ·subst f
  have e:=Z6o d
  subst e
  rw[G0h rfl,Q0b]
  show Lx.wd (u.length+1+1) (39::(39::u))=_
  rw[Lx.wd]
  have l:Lx.ord (39::39::u)=false:=rfl
  rw[l,Q0a,if_pos rfl,Lx.qd_shut (K7p a)]
  simp only
  rw[show((39::u:Str).drop 1)=u from rfl,K6l a]
  rfl
 rw[G0b f,Q0a]
 exact wd_f _ t q d u a g (G0r _)
theorem K1e:∀c:UInt8,Lx.START.contains c=true->c≠33->c≠64->Lx.SYMI.contains c=true:=by
 intro c h a d
 simp only[Lx.START,G3j,G4b,G3l,G2d,G3o]at h
 rcases h with rfl|rfl|rfl|rfl|rfl|rfl|rfl|rfl|rfl|rfl|rfl|rfl<;>first|rfl|exact absurd rfl a|exact absurd rfl d
theorem X8x{t q:Str}(o:okTQ t q=true)(f:hdW t q=true)(u:Str)(E:endW u)(p:Q2z t q=some 92->u.head?≠some 10):
 ∃c r,Q5q t q++u=c::r/\Lx.blankN (c::r)=0/\c≠35/\c≠10/\c≠60/\Lx.sym (c::r)=.ok []:=by
 have g:∀r:Str,Lx.blankN (39::r)=0/\(39:UInt8)≠35/\(39:UInt8)≠10/\(39:UInt8)≠60/\Lx.sym (39::r)=.ok []:=λr=>
  ⟨Q5e (by decide) (by decide) (λh=>absurd h (by decide)),by decide,by decide,by decide,X0p (by decide) (by decide) (by decide) (by decide) (by decide) (by decide)⟩
 rw[Q5q]
 by_cases d:t=[]
 ·subst d
  rw[G0h rfl,Q0b]
  exact⟨39,39::u,rfl,g _⟩
 rw[G0b d,Q0a]
 cases t with
 | nil=>exact absurd rfl d
 | cons c t=>
   obtain⟨x,F,rfl,a,y⟩:=Q4p o
   rcases a with rfl|⟨rfl,a⟩
   ·rw[Q7q]
    exact⟨39,_,rfl,g _⟩
   rw[Q4c]
   have l:([35,33,64]:Str).contains c=false:=by
    rw[hdW]at f
    simpa using f
   simp only[G3j,G4b,G3l,G2n,G5v]at l
   obtain⟨z,A,C⟩:=l
   have hs:Lx.START.contains c=false:=by
    cases e:Lx.START.contains c with
    | false=>rfl
    | true=>
      have:=K1e c e A C
      rw[ordB,this]at a
      cases a
   refine⟨c,_,rfl,Q5e (Q5t a rfl) (Q5t a rfl) (λe=>?_),z,Q5t a rfl,Q5t a rfl,X0p (Q5t a rfl) (Q5t a rfl) (Q5t a rfl) hs (Q5t a rfl) (Q5t a rfl)⟩
   subst e
   by_cases m:t=[]
   ·subst m
    rw[Q7p,Q0a]
    show u.head?≠some 10
    refine p ?_
    rw[Q2z,if_pos rfl,if_neg (by decide)]
   exact Z7n y m u
theorem X7l:∀ (r:Str),(∀c∈r,c=69)->qrun true r (List.replicate r.length 49)=r++[39]
 | [],_=>rfl
 | c::r,h=>by
   have a:=h c (G1g ..)
   subst a
   rw[G0i,G3g,Z6l,X7l r λc a=>h c (G1l _ a)]
   rfl
theorem J3e(x:UInt8):∀ (r:Str),(∀c∈r,x=49\/(x=48/\ordB c=true))->okTQ r (List.replicate r.length x)=true
 | [],_=>rfl
 | c::r,h=>by
   rw[G0i,G3g]
   exact X7y (h c (G1g ..)) (J3e x r λc a=>h c (G1l _ a))
theorem J8e(t:Str):∀c∈mark t,c=69:=by
 obtain⟨r,e,h⟩:=Q8u t
 rw[e]
 intro c a
 rcases G1j.1 a with rfl|a
 ·rfl
 exact h c a
theorem K3x(raw:Bool)(t:Str):qraw raw++mark t++qraw raw=qrun false (mark t) (List.replicate (mark t).length (bif raw then 49 else 48)):=by
 cases raw with
 | false=>
   rw[qraw,Q0a,Q0a,K9u]
   simp
 | true=>
   obtain⟨r,e,h⟩:=Q8u t
   have a:=X7l (mark t) (J8e t)
   rw[qraw,Q0b,Q0b]
   rw[e]at a |-
   rw[G0i,G3g]at a |-
   rw[Q7q,a]
   rfl
theorem V0q(raw:Bool)(t:Str):okTQ (mark t) (List.replicate (mark t).length (bif raw then 49 else 48))=true:=by
 refine J3e _ _ λc a=>?_
 rw[J8e t c a]
 cases raw with
 | true=>exact .inl rfl
 | false=>exact .inr ⟨rfl,rfl⟩
theorem J1g:∀ (t q:Str) (z:UInt8),Q2z t q=some z->z∈t
 | [],_,_,h=>by rw[Q2z]at h;cases h
 | c::t,[],_,h=>by rw[Q2z]at h;cases h
 | c::t,x::q,z,h=>by
   rw[Q2z]at h
   split at h
   ·split at h
    ·cases h
    cases h;exact G1g ..
   exact G1l _ (J1g t q z h)
theorem V0p(raw:Bool)(t:Str){u:Str}(a:endW u):Lx.wd (qraw raw++mark t++qraw raw++u).length (qraw raw++mark t++qraw raw++u)=.ok (mark t,List.replicate (mark t).length (bif raw then 49 else 48),(qraw raw++mark t++qraw raw).length):=by
 rw[K3x]
 exact wd_f _ _ _ (V0q raw t) u a (λh=>by
  have:=J8e t _ (J1g _ _ _ h)
  exact absurd this (by decide)) (G0r _)
theorem X4u(raw:Bool)(t u:Str):Lx.blankN (qraw raw++mark t++qraw raw++u)=0:=by
 obtain⟨r,e,h⟩:=Q8u t
 rw[e]
 cases raw with
 | false=>exact Q5e (by decide) (by decide) (λh=>absurd h (by decide))
 | true=>exact Q5e (by decide) (by decide) (λh=>absurd h (by decide))
def endN:List Atm->Prop
 | []=>True
 | [a]=>a=.nl
 | _::b::r=>endN (b::r)
theorem Z1n{a:Atm}{r:List Atm}(h:endN (a::r)):endN r/\(r=[]->a=.nl):=by
 cases r with
 | nil=>exact⟨trivial,λ_=>h⟩
 | cons b r=>exact⟨h,λh=>by cases h⟩
theorem Y8u{g:Bool}{r:List Atm}(h:WF g r):∀a d,r=a::d->okA a:=by
 rintro a d rfl
 exact h.1
theorem Ans.of{x y:Except (Int×Int) (List Token)}{l:List Token}(h:Ans y l)(e:x=y):Ans x l:=e▸h
theorem K8y{u:Str}(h:u.head?≠some 38):Lx.sym (38::u)=.ok [38]:=by
 have a:([38]:Str).isPrefixOf u=false:=by
  cases u with
  | nil=>rfl
  | cons c r=>exact Lx.pre_ne (λe=>h (by rw[e];rfl))
 rw[Lx.sym,Lx.symA,Lx.pre_cons,a,G2s,Q0a,Lx.symA,Lx.pre_ne (by decide),Q0a,Lx.symA,Lx.pre_ne (by decide),Q0a,Lx.symA]
 rfl
theorem Y4s{x:Str}{r:List Atm}(h:nxA (.s x) r)(d:okA (.s x))(st:St):Lx.sym (x++dl r st)=.ok x/\([60,60]:Str).isPrefixOf (x++dl r st)=false:=by
 obtain⟨c,y,rfl,-⟩:=d
 rcases h with h|⟨h,a⟩|⟨h,a⟩
 ·refine⟨h.sym _,Lx.pre_ne λe=>h.h60 (by rw[e];rfl)⟩
 ·match r,a with
  | .sp::r,_=>
    rw[dl,dA]
    exact⟨h.sym _,h.h60 _⟩
 match r,a with
 | .nl::r,_=>
   rw[h]
   refine⟨K8y ?_,Lx.pre_ne (by decide)⟩
   rw[dl,dA]
   cases decide (st.1.getLast?=some 92)<;>simp
theorem J8h:∀ (p:List Atm) (st:St) (g d:Bool) (f:Str) (m:List Str) (l:List Token) (k:Nat),WF g p->st.1=f++bsA d->Wt st.2 m->(p=[]->m=[])->endN p->
 (d=true->isSp p=false/\isNl p=false/\p≠[])->(Lx.lastWord l=true->g=true\/d=true)->(bsA d++dl p st).length<k->
 Ans (Lx.lex k f.length (bsA d++dl p st) l m) (l++tks p st)
 | _,_,_,_,_,_,_,0,_,_,_,_,_,_,_,hk=>absurd hk (G2q _)
 | [],st,g,d,f,m,l,k+1,hw,hs,hd,hn,he,hb,hg,hk=>by
   cases d with
   | true=>exact absurd rfl (hb rfl).2.2
   | false=>
     rw[hn rfl]
     refine .inr ?_
     show Lx.lex (k+1) f.length [] l []=.ok (l++[])
     rw[Lx.lex,G0n]
     rfl
 | a::r,st,g,d,f,m,l,k+1,hw,hs,hd,hn,he,hb,hg,hk=>by
   obtain⟨o,F,ar,V⟩:=hw
   obtain⟨ah,hre⟩:=Z1n he
   have H:st.1.length=f.length+(bsA d).length:=by rw[hs,G0g]
   have au:=Y8u V
   have I:∀ (J:List Str) (l':List Token) (K:Nat),a≠.sp->(a=.nl->J=[])->Wt (em2 a st.2) J->(Lx.lastWord l'=true->wdA a=true)->(dl r (em a st)).length<K->Ans (Lx.lex K (f.length+(bsA d).length+(dA a st).length) (dl r (em a st)) l' J) (l'++tks r (em a st)):=by
    intro J l' K h1 W X h4 h5
    have:=J8h r (em a st) (wdA a) false (em a st).1 J l' K V (by rw[bsA,Q0a,G0n]) (by rw[Z2w];exact X) (λe=>W (hre e)) ah (λh=>by cases h) (λh=>.inl (h4 h)) h5
    rw[Z2x,G0g,H]at this
    exact this
   have M:tcA a=true->(Lx.lastWord l&&decide ((bsA d).length=0))=false:=λh=>by
    cases d with
    | true=>exact G2s _
    | false=>
      cases hl:Lx.lastWord l with
      | false=>rfl
      | true=>
        rcases hg hl with h'|h'
        ·rw[ar h']at h;cases h
        cases h'
   rw[dl]at hk |-
   rw[G0g,G0g]at hk
   rw[tks]
   cases a with
   | sp=>
     cases d with
     | true=>exact absurd (hb rfl).1 (by simp[isSp])
     | false=>
       have:=J8h r (em .sp st) false true f m l (k+1) V (by show st.1++[32]=_;rw[hs];simp[bsA]) hd (λe=>absurd e F.2.2) ah (λ_=>F) (λh=>.inr rfl) (by rw[G0g];simp only[dA,bsA,Q0b,Q0a,G0i,G0z]at hk |-;omega)
       exact this
   | nl=>
     cases d with
     | true=>exact absurd (hb rfl).2.1 (by simp[isNl])
     | false=>
       rw[bsA,Q0a,G0n]at hs
       subst hs
       have A:bsA false++(dA .nl st++dl r (em .nl st))=bsA (decide (st.1.getLast?=some 92))++10::(st.2++dl r (em .nl st)):=by
        rw[dA,bsA,bsA,Q0a,G0t,G0e,G1d]
       have hp:(endl st.1).length=st.1.length+(bsA (decide (st.1.getLast?=some 92))).length:=by
        rw[endl,bsA]
        cases decide (st.1.getLast?=some 92)<;>simp
       rw[A,Y5x,Lx.nls]
       obtain⟨ts,h1,W,X⟩:=hd
       have al:=X9v (dl r (em .nl st)) ts h1
       rw[<-W,<-X]at al
       have e2:(10::(st.2++dl r (em .nl st))).drop 1=st.2++dl r (em .nl st):=rfl
       rw[e2,al]
       have am:(dA .nl st).length=(bsA (decide (st.1.getLast?=some 92))).length+(1+st.2.length):=by
        rw[dA,bsA,G0g,G0i]
        omega
       have:=I [] (l++[⟨3,((st.1.length+(bsA (decide (st.1.getLast?=some 92))).length:Nat):Int),[10],[]⟩]) k (by simp) (λ_=>rfl) Wt.nil (λh=>by rw[Q8w]at h;cases h) (by rw[am]at hk;omega)
       rw[am]at this
       rcases Z5h l ⟨3,((st.1.length+(bsA (decide (st.1.getLast?=some 92))).length:Nat):Int),[10],[]⟩with e|e
       ·rw[e];exact .inl ⟨_,rfl⟩
       rw[e]
       simp only
       have u:(10::(st.2++dl r (em .nl st))).drop (1+st.2.length)=dl r (em .nl st):=by
        rw[G5s,G4a]
        exact G3x rfl
       rw[u]
       have e4:tkA .nl (pA .nl st)=[⟨3,((st.1.length+(bsA (decide (st.1.getLast?=some 92))).length:Nat):Int),[10],[]⟩]:=by
        rw[tkA,pA,hp]
       rw[e4]
       simp only[G0e,G1d,G0t]at this |-
       refine this.of ?_
       congr 1
       simp only[bsA,Q0a,G0z]
       omega
   | h raw t=>
     have C:=J3r F (em (.h raw t) st)
     rw[dA]at hk |-
     rw[G1d,G1d,Y5y,Lx.here]
     have A:(60::60::(qraw raw++mark t++qraw raw++dl r (em (.h raw t) st)):Str).drop 2=qraw raw++mark t++qraw raw++dl r (em (.h raw t) st):=rfl
     rw[A,X4u,G3m,A,V0p raw t C]
     simp only
     have hm:decide ((qraw raw++mark t++qraw raw).length=0)=false:=by
      obtain⟨x,e,-⟩:=Q8u t
      rw[e]
      exact G0b (by simp)
     rw[hm,Q0a]
     have:=I (m++[mark t]) (l++[⟨4,((f.length+(bsA d).length:Nat):Int),mark t,List.replicate (mark t).length (bif raw then 49 else 48)⟩]) k (by simp) (λh=>by cases h) (hd.add o) (λh=>by rw[Q8w]at h;cases h) (by simp only[G0i]at hk;omega)
     rw[dA]at this
     rcases Z5h l ⟨4,((f.length+(bsA d).length:Nat):Int),mark t,List.replicate (mark t).length (bif raw then 49 else 48)⟩with e|e
     ·rw[e];exact .inl ⟨_,rfl⟩
     rw[e]
     simp only
     have u:(60::60::(qraw raw++mark t++qraw raw++dl r (em (.h raw t) st))).drop (2+(qraw raw++mark t++qraw raw).length)=dl r (em (.h raw t) st):=by
      rw[G5s,G4a,G4a]
      exact G3x rfl
     rw[u,tkA,show pA (.h raw t) st=st.1.length from rfl,H]
     simp only[G0e,G1d,G0t]at this |-
     refine this.of ?_
     congr 1
     simp only[G0i,G0g]
     omega
   | w t q=>
     have C:=J3r F (em (.w t q) st)
     have ao:Q2z t q=some 92->(dl r (em (.w t q) st)).head?≠some 10:=λh=>by
      refine V0m au ?_
      rw[Z2x,dA,Q5q]
      have ht:t≠[]:=λe=>by rw[e,Q2z]at h;cases h
      rw[G0b ht,Q0a]
      have:=J1f t q 92 o.1 h false
      obtain⟨L,y,e⟩:=G7j (qrun false t q) |>.resolve_left (λe=>by rw[e]at this;cases this)
      simp only[G7k]at e
      rw[e,G4l]at this
      rw[e,<-G0e,G4l]
      exact this
     obtain⟨c,rr,ec,aF,Y,aG,O,E⟩:=X8x o.1 o.2 _ C ao
     have aH:=wd_q o.1 C ao
     rw[dA]at hk |-
     have hq:0<(Q5q t q).length:=by
      obtain⟨-,c',r',z⟩:=J0x o.1
      rw[z]
      simp
     rw[ec,K4a aF Y aG (Lx.pre_ne O),Lx.tok,E]
     simp only
     rw[<-ec,aH]
     simp only
     rw[K4h _ _ (by rw[Lx.hats,M rfl];rfl)]
     have:=I m (l++[⟨1,((f.length+(bsA d).length:Nat):Int),t,q⟩]) k (by simp) (λh=>by cases h) hd (λh=>rfl) (by omega)
     rw[dA]at this
     rcases Z5h l ⟨1,((f.length+(bsA d).length:Nat):Int),t,q⟩with e|e
     ·rw[e];exact .inl ⟨_,rfl⟩
     rw[e]
     simp only
     rw[G3x rfl,tkA,show pA (.w t q) st=st.1.length from rfl,H]
     simp only[G0e,G1d,G0t]at this |-
     exact this
   | v n=>
     have C:=J3r F (em (.v n) st)
     obtain⟨Q,U⟩:=o
     have aa:Lx.nameN (n++dl r (em (.v n) st))=n.length:=J3h n _ U λc hc=>J6u c (C c hc).1
     rw[dA]at hk |-
     have E:Lx.sym (36::(n++dl r (em (.v n) st)))=.ok [36]:=by
      have Y:([35]:Str).isPrefixOf (n++dl r (em (.v n) st))=false:=by
       cases n with
       | nil=>exact absurd rfl Q
       | cons c n=>
         refine Lx.pre_ne λe=>?_
         have:=U c (G1g ..)
         rw[e]at this
         cases this
      rw[Lx.sym,Lx.symA,Lx.pre_ne (by decide),Q0a,Lx.symA,Lx.pre_ne (by decide),Q0a,Lx.symA,Lx.pre_cons,Y,G2s,Q0a,Lx.symA]
      rfl
     rw[G1d,K4a (Q5e (by decide) (by decide) (λh=>absurd h (by decide))) (by decide) (by decide) (Lx.pre_ne (by decide)),Lx.tok,E]
     simp only
     rw[K4h _ _ (by rw[Lx.hats,M rfl];rfl)]
     have:=I m (l++[⟨2,((f.length+(bsA d).length:Nat):Int),[36],[]⟩]++[⟨1,((f.length+(bsA d).length+1:Nat):Int),n,zr n.length⟩]) k (by simp) (λh=>by cases h) hd (λh=>rfl) (by simp only[G0i]at hk;omega)
     rw[dA]at this
     rcases Z5h l ⟨2,((f.length+(bsA d).length:Nat):Int),[36],[]⟩with e|e
     ·rw[e];exact .inl ⟨_,rfl⟩
     rw[e]
     simp only[G4x,G4t,G1a]
     have A:(36::(n++dl r (em (.v n) st)):Str).drop ([36]:Str).length=n++dl r (em (.v n) st):=rfl
     rw[A,Lx.name,aa,if_neg (λh=>Q (G1q.1 h)),G7q rfl]
     rcases Z5h (l++[⟨2,((f.length+(bsA d).length:Nat):Int),[36],[]⟩]) ⟨1,((f.length+(bsA d).length+1:Nat):Int),n,zr n.length⟩with e|e
     ·have z:Lx.push (l++[⟨2,((f.length+(bsA d).length:Nat):Int),[36],[]⟩]) ⟨1,((f.length+(bsA d).length+([36]:Str).length:Nat):Int),n,List.replicate n.length 48⟩=_:=e
      rw[z];exact .inl ⟨_,rfl⟩
     have z:Lx.push (l++[⟨2,((f.length+(bsA d).length:Nat):Int),[36],[]⟩]) ⟨1,((f.length+(bsA d).length+([36]:Str).length:Nat):Int),n,List.replicate n.length 48⟩=_:=e
     rw[z]
     simp only
     have u:(36::(n++dl r (em (.v n) st))).drop (([36]:Str).length+n.length)=dl r (em (.v n) st):=by
      rw[G7i,G5s,G4a]
      exact G3x rfl
     rw[u,tkA,show pA (.v n) st=st.1.length from rfl,H]
     simp only[G0e,G1d,G0t]at this |-
     refine this.of ?_
     congr 1
     simp only[G0i,G0z]
     omega
   | k n=>
     have C:=J3r F (em (.k n) st)
     obtain⟨Q,U⟩:=o
     have aa:Lx.nameN (n++dl r (em (.k n) st))=n.length:=J3h n _ U λc hc=>J6u c (C c hc).1
     rw[dA]at hk |-
     have E:Lx.sym (36::35::(n++dl r (em (.k n) st)))=.ok [36,35]:=by
      rw[Lx.sym,Lx.symA,Lx.pre_ne (by decide),Q0a,Lx.symA,Lx.pre_ne (by decide),Q0a,Lx.symA]
      rfl
     rw[G1d,G1d,K4a (Q5e (by decide) (by decide) (λh=>absurd h (by decide))) (by decide) (by decide) (Lx.pre_ne (by decide)),Lx.tok,E]
     simp only
     rw[K4h _ _ (by rw[Lx.hats,M rfl];rfl)]
     have:=I m (l++[⟨2,((f.length+(bsA d).length:Nat):Int),[36,35],[]⟩]++[⟨1,((f.length+(bsA d).length+2:Nat):Int),n,zr n.length⟩]) k (by simp) (λh=>by cases h) hd (λh=>rfl) (by simp only[G0i]at hk;omega)
     rw[dA]at this
     rcases Z5h l ⟨2,((f.length+(bsA d).length:Nat):Int),[36,35],[]⟩with e|e
     ·rw[e];exact .inl ⟨_,rfl⟩
     rw[e]
     simp only[G4x,G7h,G1a]
     have A:(36::35::(n++dl r (em (.k n) st)):Str).drop ([36,35]:Str).length=n++dl r (em (.k n) st):=rfl
     rw[A,Lx.name,aa,if_neg (λh=>Q (G1q.1 h)),G7q rfl]
     rcases Z5h (l++[⟨2,((f.length+(bsA d).length:Nat):Int),[36,35],[]⟩]) ⟨1,((f.length+(bsA d).length+2:Nat):Int),n,zr n.length⟩with e|e
     ·have z:Lx.push (l++[⟨2,((f.length+(bsA d).length:Nat):Int),[36,35],[]⟩]) ⟨1,((f.length+(bsA d).length+([36,35]:Str).length:Nat):Int),n,List.replicate n.length 48⟩=_:=e
      rw[z];exact .inl ⟨_,rfl⟩
     have z:Lx.push (l++[⟨2,((f.length+(bsA d).length:Nat):Int),[36,35],[]⟩]) ⟨1,((f.length+(bsA d).length+([36,35]:Str).length:Nat):Int),n,List.replicate n.length 48⟩=_:=e
     rw[z]
     simp only
     have u:(36::35::(n++dl r (em (.k n) st))).drop (([36,35]:Str).length+n.length)=dl r (em (.k n) st):=by
      rw[show([36,35]:Str).length=2 from rfl,G5s,G4a,G4a]
      exact G3x rfl
     rw[u,tkA,show pA (.k n) st=st.1.length from rfl,H]
     simp only[G0e,G1d,G0t]at this |-
     refine this.of ?_
     congr 1
     simp only[G0i,G0z]
     omega
   | s x=>
     obtain⟨E,O⟩:=Y4s F o (em (.s x) st)
     obtain⟨c,y,rfl,aI,c9,aM,aN,aO,aP,aQ⟩:=o
     rw[dA]at hk |-
     rw[G1d]at E O |-
     rw[K4a (Q5e aI c9 (λh=>absurd h aO)) aN aM O,Lx.tok,E]
     simp only
     have hh:Lx.hats ⟨2,((f.length+(bsA d).length:Nat):Int),c::y,[]⟩ (Lx.lastWord l&&decide ((bsA d).length=0))=false:=by
      rw[Lx.hats]
      simp only
      cases e:([36,96]:Str).contains c with
      | true=>
        rw[M e]
        rfl
      | false=>simp
     rw[K4h _ _ hh,G0b aP,G0b aQ]
     have:=I m (l++[⟨2,((f.length+(bsA d).length:Nat):Int),c::y,[]⟩]) k (by simp) (λh=>by cases h) hd (λh=>by rw[Q8w]at h;cases h) (by simp only[G0i]at hk;omega)
     rw[dA]at this
     rcases Z5h l ⟨2,((f.length+(bsA d).length:Nat):Int),c::y,[]⟩with e|e
     ·rw[e];exact .inl ⟨_,rfl⟩
     rw[e]
     simp only[G6s,Q0a]
     have u:(c::(y++dl r (em (.s (c::y)) st))).drop (c::y).length=dl r (em (.s (c::y)) st):=by
      rw[<-G1d]
      exact G3x rfl
     rw[u,tkA,show pA (.s (c::y)) st=st.1.length from rfl,H]
     simp only[G0e,G1d,G0t]at this |-
     exact this
theorem V4p{c:UInt8}(h:Lx.START.contains c=true)(a:c≠38)(d:c≠124)(e:c≠36)(f:c≠60):SymF [c]:=by
 refine⟨λu=>?_,by simpa using f⟩
 show Lx.sym (c::u)=_
 rw[Lx.sym,Lx.symA,Lx.pre_ne a,Q0a,Lx.symA,Lx.pre_ne d,Q0a,Lx.symA,Lx.pre_ne e,Q0a,Lx.symA,h]
 rfl
theorem K3c:SymF [38,38]:=⟨λu=>by
 rw[Lx.sym,Lx.symA]
 rfl,by decide⟩
theorem K9a:SymF [124,124]:=⟨λu=>by
 rw[Lx.sym,Lx.symA,show([124,124]:Str)++u=124::124::u from rfl,Lx.pre_ne (by decide),Q0a,Lx.symA]
 rfl,by decide⟩
theorem K2y:SymS [124]:=⟨λu=>by
 show Lx.sym (124::32::u)=_
 rw[Lx.sym,Lx.symA,Lx.pre_ne (by decide),Q0a,Lx.symA,Lx.pre_cons,Lx.pre_ne (by decide),G2s,Q0a,Lx.symA,Lx.pre_ne (by decide),Q0a,Lx.symA]
 rfl,λu=>Lx.pre_ne (by decide)⟩
theorem J9e{a:Str}(w:Str)(d:Bool)(e:(93:UInt8)∉a)(g:a.length<=1000)(h:Lx.refB (a++[93]) d=some (a.length+1)):Lx.brk (91::(a++93::w)) d=a.length+2:=by
 have f:=(Lx.F51_cut w d e (by omega)).1
 rw[Lx.brk,f,<-Lx.brk,Lx.brk_ref _ _ (by simp;omega),h]
theorem Y8d:((List.range 64).all λi=>decide ((93:UInt8)∉dig (i:Int))&&(decide ((dig (i:Int)).length<=2)&&(decide (Lx.refB (dig (i:Int)++[93]) true=some ((dig (i:Int)).length+1))&&decide (Lx.refB ((dig (i:Int)++[61])++[93]) true=some ((dig (i:Int)++[61]).length+1)))))=true:=by kernel_rfl
theorem Y8c:((List.range 64).all λi=>(List.range 64).all λj=>decide (Lx.refB ((dig (i:Int)++[61]++dig (j:Int))++[93]) true=some ((dig (i:Int)++[61]++dig (j:Int)).length+1)))=true:=by kernel_rfl
theorem Z5p{n:Int}(a:0<=n)(h:n<64):(93:UInt8)∉dig n/\(dig n).length<=2/\Lx.refB (dig n++[93]) true=some ((dig n).length+1)/\Lx.refB ((dig n++[61])++[93]) true=some ((dig n++[61]).length+1):=by
 have:=G0p.1 Y8d n.toNat (G1y.2 (by omega))
 rw[show((n.toNat:Nat):Int)=n by omega]at this
 simp only[G0d,G0l]at this
 exact this
theorem V1y{n m:Int}(a:0<=n)(h:n<64)(d:0<=m)(e:m<64):Lx.refB ((dig n++[61]++dig m)++[93]) true=some ((dig n++[61]++dig m).length+1):=by
 have:=G0p.1 (G0p.1 Y8c n.toNat (G1y.2 (by omega))) m.toNat (G1y.2 (by omega))
 rw[show((n.toNat:Nat):Int)=n by omega,show((m.toNat:Nat):Int)=m by omega]at this
 exact G3e this
theorem J7m{w a:Str}(ws:List Str)(u:Str)(d:decide (w=[124])=false)(hb:Lx.brk (91::(a++93::u)) true=a.length+2):Lx.symB (w::ws) (w++91::(a++93::u))=.ok (w++91::(a++[93])):=by
 have f:w.isPrefixOf (w++91::(a++93::u))=true:=by
  rw[G2y]
  exact List.prefix_append _ _
 rw[Lx.symB,f,Q0b,G3x rfl,Lx.pre_cons,G0h rfl,G0x]
 rw[show([]:Str).isPrefixOf (a++93::u)=true from by cases(a++93::u)<;>rfl,Q0b,d,G0o,hb,if_neg (by omega)]
 congr 1
 have e:w++91::(a++93::u)=(w++91::(a++[93]))++u:=by simp
 rw[e]
 exact G7q (by first|(simp;done)|(simp;omega))
theorem Z3l(c:UInt8)(u:Str)(h:c=60\/c=62):Lx.sym (c::u)=Lx.symB [[62,62],[62],[60],[124]] (c::u):=by
 have hs:Lx.START.contains c=false:=by rcases h with rfl|rfl<;>rfl
 have a:c≠38:=by rcases h with rfl|rfl<;>decide
 have d:c≠124:=by rcases h with rfl|rfl<;>decide
 have e:c≠36:=by rcases h with rfl|rfl<;>decide
 rw[Lx.sym,Lx.symA,Lx.pre_ne a,Q0a,Lx.symA,Lx.pre_ne d,Q0a,Lx.symA,Lx.pre_ne e,Q0a,Lx.symA,hs,Q0a]
theorem Z3k{w:Str}{ws:List Str}{t:Str}(h:w.isPrefixOf t=false):Lx.symB (w::ws) t=Lx.symB ws t:=by
 rw[Lx.symB,h,Q0a]
theorem K9b{a:Str}(hb:∀u,Lx.brk (91::(a++93::u)) true=a.length+2)(u:Str):Lx.sym (60::91::(a++[93])++u)=.ok (60::91::(a++[93])):=by
 have e:60::91::(a++[93])++u=[60]++91::(a++93::u):=by simp
 rw[e]
 show Lx.sym (60::(91::(a++93::u)))=_
 rw[Z3l _ _ (.inl rfl),Z3k (Lx.pre_ne (by decide)),Z3k (Lx.pre_ne (by decide))]
 exact J7m _ u rfl (hb u)
theorem J2q{a:Str}(hb:∀u,Lx.brk (91::(a++93::u)) true=a.length+2):SymF (62::91::(a++[93])):=by
 refine⟨λu=>?_,by simp⟩
 have e:62::91::(a++[93])++u=[62]++91::(a++93::u):=by simp
 rw[e]
 show Lx.sym (62::(91::(a++93::u)))=_
 rw[Z3l _ _ (.inr rfl),Z3k (by rw[Lx.pre_cons,Lx.pre_ne (by decide),G2s])]
 exact J7m _ u rfl (hb u)
theorem K3b{a:Str}(hb:∀u,Lx.brk (91::(a++93::u)) true=a.length+2):SymF (62::62::91::(a++[93])):=by
 refine⟨λu=>?_,by simp⟩
 have e:62::62::91::(a++[93])++u=[62,62]++91::(a++93::u):=by simp
 rw[e]
 show Lx.sym (62::(62::91::(a++93::u)))=_
 rw[Z3l _ _ (.inr rfl)]
 exact J7m _ u rfl (hb u)
theorem K0l{n:Int}(a:0<=n)(h:n<64)(u:Str):Lx.brk (91::(dig n++93::u)) true=(dig n).length+2:=by
 obtain⟨d,f,e,-⟩:=Z5p a h
 exact J9e u true d (by omega) e
theorem J7l{w:Str}{ws:List Str}{u:Str}:Lx.symB (w::ws) (w++32::u)=.ok w:=by
 have a:w.isPrefixOf (w++32::u)=true:=by
  rw[G2y]
  exact List.prefix_append _ _
 rw[Lx.symB,a,Q0b,G3x rfl,Lx.pre_ne (by decide),Q0a]
theorem K8z{n:Int}(a:0<=n)(h:n<64):SymS (60::brk n 0):=by
 rw[brk]
 cases decide (n=0)with
 | true=>
   refine⟨λu=>?_,λu=>?_⟩
   ·show Lx.sym (60::(32::u))=_
    rw[Z3l _ _ (.inl rfl),Z3k (Lx.pre_ne (by decide)),Z3k (Lx.pre_ne (by decide))]
    exact J7l
   show([60,60]:Str).isPrefixOf (60::32::u)=false
   rw[Lx.pre_cons,Lx.pre_ne (by decide),G2s]
 | false=>
   refine⟨λu=>K9b (K0l a h) _,λu=>?_⟩
   show([60,60]:Str).isPrefixOf (60::91::_)=false
   rw[Lx.pre_cons,Lx.pre_ne (by decide),G2s]
theorem K2x{n:Int}(a:0<=n)(h:n<64):SymS (62::brk n 1):=by
 rw[brk]
 cases decide (n=1)with
 | true=>
   refine⟨λu=>?_,λu=>Lx.pre_ne (by decide)⟩
   show Lx.sym (62::(32::u))=_
   rw[Z3l _ _ (.inr rfl),Z3k (by rw[Lx.pre_cons,Lx.pre_ne (by decide),G2s])]
   exact J7l
 | false=>exact⟨λu=>(J2q (K0l a h)).sym _,λu=>Lx.pre_ne (by decide)⟩
theorem K2z{n:Int}(a:0<=n)(h:n<64):SymS (62::62::brk n 1):=by
 rw[brk]
 cases decide (n=1)with
 | true=>
   refine⟨λu=>?_,λu=>Lx.pre_ne (by decide)⟩
   show Lx.sym (62::(62::32::u))=_
   rw[Z3l _ _ (.inr rfl)]
   exact J7l (w:=[62,62])
 | false=>exact⟨λu=>(K3b (K0l a h)).sym _,λu=>Lx.pre_ne (by decide)⟩
theorem K3a{n m:Int}(d:0<=n)(h:n<64)(e:0<=m)(f:m<64):SymF ([62,91]++dig n++[61]++dig m++[93]):=by
 obtain⟨g,o,-,-⟩:=Z5p d h
 obtain⟨l,p,-,-⟩:=Z5p e f
 have:=J2q (a:=dig n++[61]++dig m) λu=>J9e u true (by simp[g,l]) (by simp only[G0g,G0i,G0z];omega) (V1y d h e f)
 simpa using this
theorem X3s{n:Int}(d:0<=n)(h:n<64):SymF ([62,91]++dig n++[61,93]):=by
 obtain⟨e,g,-,f⟩:=Z5p d h
 have:=J2q (a:=dig n++[61]) λu=>J9e u true (by simp[e]) (by simp only[G0g,G0i,G0z];omega) f
 simpa using this
theorem Q4f{α:Type}{l r:List α}{u:α}{i:Nat}(h:l.drop i=u::r):u∈l:=G3u (i:=i) (by rw[h];exact G1g ..)
theorem pos0{i:Nat}(h:i≠0):decide ((0:Int)<(i:Int))=true:=G0h (by omega)
theorem zer0:decide ((0:Int)<((0:Nat):Int))=false:=rfl
theorem J9v{w66:Cmd->Str->List Redir->Option (Str×List Redir)}(l:List Cmd)(d:l.length<=1000000)(h:∀c∈l,PS (w66 c) (pC c) (10000 * nC c-100)):PS (F35 w66 l) (pIts l) (10000 * nCs l):=by
 delta F35
 refine Sim.loop l (λ_ r=>pIts r) (λr=>10000 * nCs r) d (λi u r e m hd f a g=>?_) (λe a=>?_)
 ·simp only[X3g,a,f,G1a,G0a]
  have:=Q3y u
  exact Sim.w (Sim.bind (h u (Q4f hd)) (Sim.bind X1r g)) (λst=>by rw[pIts])
 simp only[X3g,a,G0v]
 exact Sim.w Wq2 (λst=>by rw[pIts])
theorem Z7d{w66:Cmd->Str->List Redir->Option (Str×List Redir)}(l:List Cmd)(s:Str)(hs:s.length<=50)(m:l.length<=1000000)(h:∀c∈l,PS (w66 c) (pC c) (10000 * nC c-100)):PS (F102 w66 l s) (pJ l s true) (10000 * nCs l):=by
 delta F102
 refine Sim.loop l (λf r=>pJ r s f) (λr=>10000 * nCs r) m (λi u r o p hd e a g=>?_) (λo a=>?_)
 ·have q:=Q3y u
  by_cases d:i=0
  ·subst d
   simp only[Z9x,a,e,zer0,G1a,G0v,G0a]
   exact Sim.w (Sim.bind (h u (Q4f hd)) g) (λst=>by rw[pJ];rfl)
  simp only[Z9x,a,e,pos0 d,G1a,G0v,G0a]
  exact Sim.w (Sim.put (Q0o [s]) (Sim.bind (h u (Q4f hd)) g)) (λst=>by rw[pJ,G0b d];simp only[G2o,G3k,G0n];rfl)
 simp only[Z9x,a,G0v]
 exact Sim.w Wq2 (λst=>by rw[pJ])
theorem Z7b{w152:Word->Str->List Redir->Option (Str×List Redir)}(l:List Word)(d:l.length<=1000000)(h:∀c∈l,PS (w152 c) (pW c) (10000 * nW c-100)):PS (F153 w152 l) (pSep l [32] false) (10000 * nWs l):=by
 delta F153
 refine Sim.loop l (λ_ r=>pSep r [32] false) (λr=>10000 * nWs r) d (λi u r e m hd f a g=>?_) (λe a=>?_)
 ·simp only[J4q,a,f,G1a,G0a]
  have:=Q7h u
  exact Sim.w (Sim.put (Q0o [[32]]) (Sim.bind (h u (Q4f hd)) g)) (λst=>by rw[pSep];rfl)
 simp only[J4q,a,G0v]
 exact Sim.w Wq2 (λst=>by rw[pSep])
theorem J4o{w152:Word->Str->List Redir->Option (Str×List Redir)}(o:Str)(l:List Word)(s c:Str)(hs:s.length<=50)(m:l.length<=1000000)(h:∀c∈l,PS (w152 c) (pW c) (10000 * nW c-100)):
 PS (F191 w152 o l s c) (λst=>put c (pSep l s true (put o st))) (o.length+(10000 * nWs l+c.length)):=by
 delta F191
 refine Sim.weak (Sim.put (Q0o [o]) (Sim.loop (body:=Z4q l s w152 c) l (λf r st=>put c (pSep r s f st)) (λr=>10000 * nWs r+c.length) m (λi u r p q hd e a g=>?_) (λp a=>?_))) (λst=>?_) ?_
 ·have t:=Q7h u
  by_cases d:i=0
  ·subst d
   simp only[Z4q,a,e,zer0,G1a,G0v,G0a]
   exact Sim.w (Sim.bind (h u (Q4f hd)) g) (λst=>by rw[pSep];rfl)
  simp only[Z4q,a,e,pos0 d,G1a,G0v,G0a]
  exact Sim.w (Sim.put (Q0o [s]) (Sim.bind (h u (Q4f hd)) g)) (λst=>by rw[pSep,G0b d];simp only[G2o,G3k,G0n];rfl)
 ·simp only[Z4q,a,G0v]
  exact Sim.w (Sim.put (Q0o [c]) Wq2) (λst=>by rw[pSep];simp only[G2o,G3k,G0n])
 ·simp only[G2o,G3k,G0n]
 simp only[G2o,G3k,G0n]
 omega
theorem Z3h{w66:Cmd->Str->List Redir->Option (Str×List Redir)}(o:Str)(l:List Cmd)(c:Str)(a:l.length<=1000000)(h:∀c∈l,PS (w66 c) (pC c) (10000 * nC c-100)):
 PS (F104 w66 o l c) (λst=>put c (pIts l (nl (put o st)))) (o.length+(2+(10000 * nCs l+c.length))):=by
 delta F104
 refine Sim.weak (Sim.put (Q0o [o]) (Sim.bind X1r (Sim.bind (J9v l a h) (Sim.put (Q0o [c]) Wq2)))) (λst=>?_) ?_
 ·simp only[G2o,G3k,G0n]
 simp only[G2o,G3k,G0n]
 omega
theorem Y8e:∀k:Fin 64,Lib.decDigits k.val=dig (k.val:Int):=by decide +kernel
theorem Z6v(n:Int)(a:0<=n)(d:n<64):Q4z n=some (dig n):=by
 rw[Q4z,if_pos ⟨a,by omega⟩]
 have:=Y8e ⟨n.toNat,by omega⟩
 simp only at this
 rw[this,G5e a]
theorem J3u(n:Int):(dig n).length<=2:=by
 unfold dig
 cases decide (n<10)<;>simp
theorem K0k(n u:Int):(brk n u).length<=4:=by
 have:=J3u n
 unfold brk
 cases decide (n=u)<;>simp
 omega
theorem X0a(n u:Int)(a:0<=n)(d:n<64):F188 n u=some (brk n u):=by
 have:=J3u n
 rw[F188,brk]
 cases decide (n=u)with
 | true=>rfl
 | false=>rw[Q0a,Q0a,Z6v n a d,G0a,Z4e (by simp;omega),G0a,Z4e (by simp;omega)];rfl
theorem Sim.hold{r:Redir}(p:r.word_.text_.length<=2000){k:Str->List Redir->Option (Str×List Redir)}{g:St->St}{c:Nat}(h:PS k g c):
 PS (λb l=>(appO 120 l [r]).bind λo=>k b o) (λst=>g (Go.Abs.U48.wait (r.word_.text_++(mark r.word_.text_++[10])) st)) ((r.word_.text_++(mark r.word_.text_++[10])).length+c):=by
 intro b l k1 k2
 have u:=J3d l
 unfold sz LIM at k2
 simp only at k2
 have q:appO 120 l [r]=some (l++[r]):=if_pos (by simp;omega)
 have d:pend (l++[r])=pend l++(r.word_.text_++(mark r.word_.text_++[10])):=by rw[K3n,Z7y,show pend []=[] from rfl,G0n]
 obtain⟨l',e,f,t,m⟩:=h b (l++[r]) (λx a=>by
  rcases G2z.1 a with a|a
  ·exact k1 x a
  rw[G1p.1 a];exact p) (by unfold sz LIM;rw[d];simp only[G0g]at k2 |-;omega)
 rw[d]at e f m
 refine⟨l',?_,f,t,?_⟩
 ·show(appO 120 l [r]).bind _=_
  rw[q,G0a]
  exact e
 refine G3c m ?_
 unfold sz
 simp only[G0g]
 omega
theorem Y4v{r:Redir}(h:rR r=true):(0<=r.fd_/\r.fd_<64)/\(0<=r.from_/\r.from_<64)/\(r.kind_=1\/r.kind_=2\/r.kind_=3\/r.kind_=5\/r.kind_=6\/r.kind_=4):=by
 rw[K3i]at h
 cases e:(((((decide (r.fd_<0)||decide (64<=r.fd_))||decide (r.from_<0))||decide (64<=r.from_))||(!decide (r.kind_=5)&&!decide (r.from_=0)))||(!decide (r.kind_=4)&&r.raw_))with
 | true=>rw[e,Q0b]at h;exact absurd h (by simp)
 | false=>
   rw[e,Q0a]at h
   simp only[G2n,G4j]at e
   refine⟨by omega,by omega,?_⟩
   by_cases k1:r.kind_=1
   ·exact .inl k1
   by_cases k2:r.kind_=2
   ·exact .inr (.inl k2)
   by_cases a:r.kind_=3
   ·exact .inr (.inr (.inl a))
   by_cases d:r.kind_=5
   ·exact .inr (.inr (.inr (.inl d)))
   by_cases f:r.kind_=6
   ·exact .inr (.inr (.inr (.inr (.inl f))))
   by_cases g:r.kind_=4
   ·exact .inr (.inr (.inr (.inr (.inr g))))
   rw[G0b k1,G0b k2,G0b a,G0b d,G0b f,G0b g]at h
   exact absurd h (by simp)
theorem K6g{w152:Word->Str->List Redir->Option (Str×List Redir)}(r:Redir)(l:rR r=true)(m:r.word_.text_.length<=2000)(h:(r.kind_=1\/r.kind_=2\/r.kind_=3)->PS (w152 r.word_) (pW r.word_) (10000 * nW r.word_-100)):PS (F151 w152 r) (pR r) (10000 * nR r-50):=by
 obtain⟨⟨a,d⟩,⟨o,p⟩,hk⟩:=Y4v l
 have t:=Z3v r
 have u:=Q7h r.word_
 have x:=K3y r.word_.text_
 have y:=J3u r.fd_
 have z:=J3u r.from_
 have A:=K0k r.fd_ 0
 have C:=K0k r.fd_ 1
 rw[funext (Y5d r)]
 delta F151
 by_cases k1:r.kind_=1
 ·simp only[G0h k1,G1a,X0a _ _ a d,G0a]
  exact Sim.w (Sim.put (Q0o _) (Sim.bind (h (.inl k1)) Wq2))
 by_cases k2:r.kind_=2
 ·simp only[G0b k1,G0h k2,G1a,G0v,X0a _ _ a d,G0a]
  exact Sim.w (Sim.put (Q0o _) (Sim.bind (h (.inr (.inl k2))) Wq2))
 by_cases e:r.kind_=3
 ·simp only[G0b k1,G0b k2,G0h e,G1a,G0v,X0a _ _ a d,G0a]
  exact Sim.w (Sim.put (Q0o _) (Sim.bind (h (.inr (.inr e))) Wq2))
 by_cases f:r.kind_=5
 ·simp only[G0b k1,G0b k2,G0b e,G0h f,G1a,G0v,Z6v _ a d,Z6v _ o p,G0a]
  exact Sim.w (Sim.put (Q0o _) Wq2)
 by_cases g:r.kind_=6
 ·simp only[G0b k1,G0b k2,G0b e,G0b f,G0h g,G1a,G0v,Z6v _ a d,G0a]
  exact Sim.w (Sim.put (Q0o _) Wq2)
 have q:r.kind_=4:=by omega
 simp only[G0b k1,G0b k2,G0b e,G0b f,G0b g,G0h q,G1a,G0v,K2k _ (show r.word_.text_.length<=1000000 by omega),G0a]
 have hq:(qraw r.raw_).length<=1:=by unfold qraw;cases r.raw_<;>simp
 exact Sim.w (Sim.hold m (Sim.put (Q0o [[60,60],qraw r.raw_,mark r.word_.text_,qraw r.raw_]) Wq2))
theorem Z7c{w152:Word->Str->List Redir->Option (Str×List Redir)}(l:List Redir)(d:l.length<=1000000)(h:∀r∈l,PS (F151 w152 r) (pR r) (10000 * nR r-50)):PS (F105 w152 l) (pRs l false) (10000 * nRs l):=by
 delta F105
 refine Sim.loop l (λ_ r=>pRs r false) (λr=>10000 * nRs r) d (λi u r e m hd f a g=>?_) (λe a=>?_)
 ·simp only[J4t,a,f,G1a,G0a]
  have:=Z3v u
  have:=Q7h u.word_
  exact Sim.w (Sim.put (Q0o [[32]]) (Sim.bind (h u (Q4f hd)) g)) (λst=>by rw[pRs];rfl)
 simp only[J4t,a,G0v]
 exact Sim.w Wq2 (λst=>by rw[pRs])
theorem K6i{w152:Word->Str->List Redir->Option (Str×List Redir)}(c:Cmd)(A:c.words_.length<=1000000)(l:c.redirs_.length<=1000000)(h:∀x∈c.words_,PS (w152 x) (pW x) (10000 * nW x-100))(a:∀r∈c.redirs_,PS (F151 w152 r) (pR r) (10000 * nR r-50)):
 PS (F106 w152 c) (λst=>pRs c.redirs_ (decide (c.words_=[])) (pSep c.words_ [32] true st)) (10000 * nWs c.words_+10000 * nRs c.redirs_):=by
 delta F106
 refine Sim.loop (body:=Q9v c w152) c.words_ (λf r st=>pRs c.redirs_ (decide (c.words_=[])) (pSep r [32] f st)) (λr=>10000 * nWs r+10000 * nRs c.redirs_) A (λi u r C H hd g e z=>?_) (λC e=>?_)
 ·have I:=Q7h u
  by_cases p:i=0
  ·subst p
   simp only[Q9v,e,g,zer0,G1a,G0v,G0a]
   exact Sim.w (Sim.bind (h u (Q4f hd)) z) (λst=>by rw[pSep];rfl)
  simp only[Q9v,e,g,pos0 p,G1a,G0v,G0a]
  exact Sim.w (Sim.put (Q0o [[32]]) (Sim.bind (h u (Q4f hd)) z)) (λst=>by rw[pSep,G0b p];rfl)
 have q:decide ((c.words_.length:Int)=0)=decide (c.words_=[]):=G1e.2 (by rw[<-G1q];omega)
 by_cases t:c.words_=[]
 ·cases y:c.redirs_ with
  | nil=>
    simp only[Q9v,e,G0v,q,G0h t,y,G0z]
    refine Sim.weak (f:=λb d=>(F105 w152 [] b d).bind λ(o,m)=>some (o,m)) (Sim.bind (Z7c (w152:=w152) [] (by simp) (λr a=>absurd a G2r)) Wq2) (λst=>by rw[pSep,pRs,pRs]) (G1t _)
  | cons d r=>
    have E:decide ((0:Int)<((d::r).length:Int))=true:=G0h (by rw[G0i];omega)
    have F:Q3n (d::r) 1 ((d::r).length:Int)=some r:=by
     rw[Q3n,if_pos (by simp;omega)]
     simp
    rw[y]at a l
    simp only[Q9v,e,G0v,q,G0h t,y,E,G9d,G1a,Z2o,F,G0a]
    refine Sim.weak (Sim.bind (a d (G1g ..)) (Sim.bind (Z7c r (by simp at l;omega) (λx g=>a x (G1l _ g))) Wq2)) (λst=>by rw[pSep,pRs];rfl) ?_
    rw[nRs,nWs]
    omega
 simp only[Q9v,e,G0v,q,G0b t,G3b]
 exact Sim.weak (Sim.bind (Z7c c.redirs_ l a) Wq2) (λst=>by rw[pSep]) (by rw[nWs];omega)
theorem J2w{c:Cmd}(h:rC c=true):(∀x∈c.words_,rW x=true)/\(∀r∈c.redirs_,rR r=true)/\(c.kind_≠17->∀x∈c.kids_,rC x=true)/\(c.kind_=17->∀x∈c.kids_,Q5p x=true)/\
 Q0x c.kind_ c.name_ c.words_.length c.redirs_.length c.kids_.length=true:=by
 rw[Q7o]at h
 simp only[G0d]at h
 obtain⟨⟨⟨g,y⟩,z⟩,d⟩:=h
 have f:∀ (m:Int) (l:List Cmd),(l.all λc=>lvl m c.kind_&&rC c)=true->∀x∈l,rC x=true:=λm l h x e=>by
  have:=G0p.1 h x e
  rw[G0d]at this
  exact this.2
 refine⟨G0p.1 y,G0p.1 z,λhk=>?_,λhk=>?_,g⟩
 ·by_cases k1:c.kind_=1
  ·rw[k1,sh1]at g
   simp only[G0d,G0l]at g
   intro x e
   rw[G0u g.2.2]at e
   exact absurd e G2r
  rw[G0b k1,Q0a]at d
  cases p:(decide (c.kind_=8)||decide (c.kind_=11))with
  | true=>
    rw[p,Q0b]at d
    cases o:c.kids_ with
    | nil=>intro x e;exact absurd e G2r
    | cons a r=>
      rw[o,rIf,Q3m]at d
      simp only[G0d]at d
      intro x e
      rcases G1j.1 e with rfl|e
      ·exact d.1.2
      exact f 1 r d.2 x e
  | false=>
  rw[p,Q0a]at d
  cases q:(decide (c.kind_=12)||decide (c.kind_=15))with
  | true=>rw[q,Q0b]at d;exact f 4 _ d
  | false=>
  rw[q,Q0a]at d
  cases t:(decide (c.kind_=5)||decide (c.kind_=6))with
  | true=>
    rw[t,Q0b]at d
    cases o:c.kids_ with
    | nil=>intro x e;exact absurd e G2r
    | cons a r=>
      rw[o,rAnd,Q3m]at d
      simp only[G0d]at d
      intro x e
      rcases G1j.1 e with rfl|e
      ·exact d.1.2
      exact f 2 r d.2 x e
  | false=>
  rw[t,Q0a]at d
  cases u:decide (c.kind_=14)with
  | true=>rw[u,Q0b]at d;exact f 3 _ d
  | false=>
  rw[u,Q0a,G0b hk,Q0a]at d
  exact f 1 _ d
 rw[hk]at d
 exact G0p.1 d
theorem X1e{w:Word}(h:rW w=true):(∀x∈w.words_,rW x=true)/\(∀x∈w.cmd_,rC x=true)/\(w.kind_=1->w.quoted_.length=w.text_.length)/\
 (w.kind_=1\/w.kind_=2\/w.kind_=3\/w.kind_=7\/w.kind_=5\/w.kind_=4\/w.kind_=6):=by
 rw[X7j]at h
 have d:∀ {n m:Nat} {ws:List Word} {cs:List Cmd},ws.length+cs.length=0->(∀x∈ws,rW x=true)/\(∀x∈cs,rC x=true):=λ{n m ws cs} h=>by
  rw[G0u (show ws.length=0 by omega),G0u (show cs.length=0 by omega)]
  exact⟨λx a=>absurd a G2r,λx a=>absurd a G2r⟩
 have e:∀ {cs:List Cmd},cs.length=0->(∀x∈cs,rC x=true):=λ{cs} h=>by
  rw[G0u h]
  exact λx a=>absurd a G2r
 by_cases k1:w.kind_=1
 ·rw[G0h k1,Q0b]at h
  simp only[G0d,G0l,Z6a]at h
  exact⟨(d (n:=0) (m:=0) h.2).1,(d (n:=0) (m:=0) h.2).2,λ_=>h.1.1,.inl k1⟩
 rw[G0b k1,Q0a]at h
 cases k2:(decide (w.kind_=2)||decide (w.kind_=3))with
 | true=>
   rw[k2,Q0b]at h
   simp only[G0d,G2d,G0l]at h k2
   exact⟨(d (n:=0) (m:=0) h.2).1,(d (n:=0) (m:=0) h.2).2,λhk=>absurd hk k1,by omega⟩
 | false=>
 rw[k2,Q0a]at h
 by_cases f:w.kind_=7
 ·rw[G0h f,Q0b]at h
  simp only[G0d,G0l]at h
  exact⟨G0p.1 h.2,e h.1.2,λhk=>absurd hk k1,by omega⟩
 rw[G0b f,Q0a]at h
 by_cases g:w.kind_=5
 ·rw[G0h g,Q0b]at h
  simp only[G0d,G0l]at h
  exact⟨G0p.1 h.2,e h.1.2,λhk=>absurd hk k1,by omega⟩
 rw[G0b g,Q0a]at h
 by_cases l:w.kind_=6
 ·rw[G0h l,Q0b]at h
  simp only[G0d,G0l,G0p]at h
  refine⟨λx a=>?_,λx a=>(h.2 x a).2,λhk=>absurd hk k1,by omega⟩
  rw[G0u h.1.2]at a
  exact absurd a G2r
 rw[G0b l,Q0a]at h
 by_cases o:w.kind_=4
 ·rw[G0h o,Q0b]at h
  simp only[G0d,G0l]at h
  exact⟨G0p.1 h.2.2,e h.2.1.2,λhk=>absurd hk k1,by omega⟩
 rw[G0b o]at h
 exact absurd h (by simp)
theorem rR_w{r:Redir}(h:rR r=true)(hk:r.kind_=1\/r.kind_=2\/r.kind_=3):rW r.word_=true:=by
 rw[K3i]at h
 have e:(decide (r.kind_=1)||(decide (r.kind_=2)||decide (r.kind_=3)))=true:=by
  simp only[G2d,G0l]
  exact hk
 rw[e,Q0b]at h
 cases a:(((((decide (r.fd_<0)||decide (64<=r.fd_))||decide (r.from_<0))||decide (64<=r.from_))||(!decide (r.kind_=5)&&!decide (r.from_=0)))||(!decide (r.kind_=4)&&r.raw_))with
 | true=>rw[a,Q0b]at h;exact absurd h (by simp)
 | false=>rw[a,Q0a]at h;exact h
theorem Z7m{c:Cmd}(h:Q5p c=true):(∀x∈c.words_,rW x=true)/\(∀x∈c.kids_,rC x=true)/\0<c.words_.length:=by
 rw[J2v]at h
 simp only[G0d,G0p,G5c,G4j]at h
 exact⟨h.1.2,λx a=>(h.2 x a).2,by omega⟩
theorem X3y{k:Int}{nm:Str}{w r n:Nat}(h:Q0x k nm w r n=true):k=14\/k=5\/k=6\/k=3\/k=7\/k=13\/k=9\/k=12\/k=1\/k=2\/k=8\/k=11\/k=10\/k=17\/k=15\/k=16:=by
 refine Classical.byContradiction λa=>?_
 simp only[not_or]at a
 obtain⟨d,e,f,g,l,m,o,p,q,t,u,x,y,z,A,C⟩:=a
 rw[Q0x,G0b q,G0b t,G0b g,G0b e,G0b f,G0b l,G0b u,G0b o,G0b y,G0b x,G0b p,G0b m,G0b d,G0b A,G0b C,G0b z]at h
 revert h
 cases decide (nm=[])<;>cases decide (0<r)<;>exact λh=>Bool.noConfusion h
theorem K9j{nm:Str}{w r n:Nat}(h:Q0x 2 nm w r n=true):w=1/\n<=1/\r=0:=by
 rw[sh2]at h
 simp only[G0d,G0l]at h
 omega
theorem V4x{c:Cmd}(h:rC c=true)(hk:c.kind_=8\/c.kind_=11){a:Cmd}{r:List Cmd}(e:c.kids_=a::r):a.kind_=12:=by
 rw[Q7o]at h
 have d:(decide (c.kind_=8)||decide (c.kind_=11))=true:=by
  simp only[G2d,G0l]
  exact hk
 rw[G0b (show ¬ c.kind_=1 by omega),Q0a,d,Q0b,e,rIf]at h
 simp only[G0d,G0l]at h
 exact h.2.1.1.1
theorem one{α:Type}{l:List α}(h:l.length=1):∃a,l=[a]:=by
 rcases l with _|⟨a,_|⟨b,r⟩⟩<;>simp at h
 exact⟨a,rfl⟩
theorem K6e{w66:Cmd->Str->List Redir->Option (Str×List Redir)}{w152:Word->Str->List Redir->Option (Str×List Redir)}(c:Cmd)(d:c.words_.length<=1000000)(e:c.kids_.length<=1000000)
 (g:∀x∈c.words_,PS (w152 x) (pW x) (10000 * nW x-100)) (l:∀k∈c.kids_,k.words_.length<=1000000/\k.kids_.length<=1000000/\(∀x∈k.words_,PS (w152 x) (pW x) (10000 * nW x-100))/\(∀x∈k.kids_,PS (w66 x) (pC x) (10000 * nC x-100))):
 PS (F154 w66 w152 c) (λst=>put [125] (pCs c.kids_ (nl (put [32,123] (pSep c.words_ [32] false (put [115,119,105,116,99,104] st)))))) (10000 * nWs c.words_+10000 * nCs c.kids_+20):=by
 delta F154
 refine Sim.weak (Sim.put (Q0o [[115,119,105,116,99,104]]) (Sim.bind (Z7b c.words_ d g) (Sim.put (Q0o [[32,123]]) (Sim.bind X1r (Sim.loop (body:=Z9u c w152 w66) c.kids_ (λf r st=>put [125] (pCs r st)) (λr=>10000 * nCs r+1) e (λi u r m A hd o a p=>?_) (λm a=>?_)))))) (λst=>?_) ?_
 ·simp only[Z9u,a,o,G1a,G0a]
  obtain⟨q,t,y,z⟩:=l u (Q4f hd)
  have:=Q3y u
  exact Sim.w (Sim.put (Q0o [[99,97,115,101]]) (Sim.bind (Z7b u.words_ q y) (Sim.bind X1r (Sim.bind (J9v u.kids_ t z) p)))) (λst=>by rw[pCs,V5i];rfl)
 ·simp only[Z9u,a,G0v]
  exact Sim.w (Sim.put (Q0o [[125]]) Wq2) (λst=>by rw[pCs];rfl)
 ·rfl
 simp only[G2o,G3k,G0n,G0i,G0z]
 omega
theorem K6h{w66:Cmd->Str->List Redir->Option (Str×List Redir)}{w152:Word->Str->List Redir->Option (Str×List Redir)}(c:Cmd)(E:rC c=true)(ad:c.name_.length<=2000)(F:c.words_.length<=1000000)(q:c.kids_.length<=1000000)
 (k0:¬ c.kind_=14/\¬ c.kind_=5/\¬ c.kind_=6/\¬ c.kind_=3/\¬ c.kind_=7/\¬ c.kind_=13/\¬ c.kind_=9/\¬ c.kind_=12/\¬ c.kind_=1)
 (m:∀x∈c.words_,PS (w152 x) (pW x) (10000 * nW x-100)) (hk:c.kind_≠17->∀x∈c.kids_,PS (w66 x) (pC x) (10000 * nC x-100))
 (f:∀k∈c.kids_,k.words_.length<=1000000/\k.kids_.length<=1000000/\(c.kind_=17->∀x∈k.words_,PS (w152 x) (pW x) (10000 * nW x-100))/\(c.kind_=17\/k.kind_=12->∀x∈k.kids_,PS (w66 x) (pC x) (10000 * nC x-100))):
 PS (F107 w66 w152 c) (pC c) (10000 * nC c-100):=by
 obtain⟨J,K,L,M,O,Q,U,V,W⟩:=k0
 have t:=(J2w E).2.2.2.2
 have ae:=X3y t
 have o:=Q3y c
 rw[funext (J0b c)]
 delta F107
 simp only[G0b J,G0b K,G0b L,G0b M,G0b O,G0b Q,G0b U,G0b V,G0b W,G0v]
 by_cases k2:c.kind_=2
 ·rw[k2]at t
  have X:=K9j t
  obtain⟨u,I⟩:=one X.1
  have g:=hk (by omega)
  rw[I]at m o
  have af:=Q7h u
  rw[nWs,nWs]at o
  simp only[G0h k2,G1a,I,Z2o,G0a]
  by_cases y:c.kids_.length=0
  ·have e:decide ((0:Int)<(c.kids_.length:Int))=false:=G0b (by omega)
   simp only[e,G0h y,G1a,G0v]
   exact Sim.w (Sim.put (Q0o [c.name_,[61]]) (Sim.bind (m u (G1g ..)) (Sim.bind (Z7d c.kids_ [] (by simp) q g) Wq2))) (λst=>by rw[pSep,pSep];simp only[G2o,G3k,G0n,G1a])
  have e:decide ((0:Int)<(c.kids_.length:Int))=true:=G0h (by omega)
  simp only[e,G0b y,G1a,G0v]
  exact Sim.w (Sim.put (Q0o [c.name_,[61]]) (Sim.bind (m u (G1g ..)) (Sim.put (Q0o [[32]]) (Sim.bind (Z7d c.kids_ [] (by simp) q g) Wq2)))) (λst=>by rw[pSep,pSep];simp only[G2o,G3k,G0n,G1a])
 by_cases d:c.kind_=8
 ·obtain⟨a,b,e⟩:=two (X1a t (.inl d))
  have g:=hk (by omega)
  rw[e]at g f o
  rw[nCs,nCs,nCs]at o
  have z:=f a (G1g ..)
  have Y:=Q3y a
  have aa:=Q3y b
  simp only[G0b k2,G0h d,G1a,G0v,e,Z2o,G0a,show lidx [a,b] 1=some b from rfl]
  exact Sim.w (Sim.bind (Z3h [105,102,40] a.kids_ [41,32] z.2.1 (z.2.2.2 (.inr (V4x E (.inl d) e)))) (Sim.bind (g b (by simp)) Wq2)) (λst=>by rw[pT,pJ,pJ,V5h];rfl)
 by_cases l:c.kind_=11
 ·obtain⟨a,b,e⟩:=two (X1a t (.inr (.inl l)))
  have g:=hk (by omega)
  rw[e]at g f o
  rw[nCs,nCs,nCs]at o
  have z:=f a (G1g ..)
  have Y:=Q3y a
  have aa:=Q3y b
  simp only[G0b k2,G0b d,G0h l,G1a,G0v,e,Z2o,G0a,show lidx [a,b] 1=some b from rfl]
  exact Sim.w (Sim.bind (Z3h [119,104,105,108,101,40] a.kids_ [41,32] z.2.1 (z.2.2.2 (.inr (V4x E (.inr l) e)))) (Sim.bind (g b (by simp)) Wq2)) (λst=>by rw[pT,pJ,pJ,V5h];rfl)
 by_cases A:c.kind_=10
 ·simp only[G0b k2,G0b d,G0b l,G0h A,G1a,G0v]
  exact Sim.w (Sim.put (Q0o [[102,111,114,40],c.name_,[32,105,110]]) (Sim.bind (Z7b c.words_ F m) (Sim.put (Q0o [[41,32]]) (Sim.bind (Z7d c.kids_ [] (by simp) q (hk (by omega))) Wq2))))
 by_cases p:c.kind_=17
 ·simp only[G0b k2,G0b d,G0b l,G0b A,G0h p,G1a,G0v]
  exact Sim.w (Sim.bind (K6e c F q m (λk C=>⟨(f k C).1,(f k C).2.1,(f k C).2.2.1 p,(f k C).2.2.2 (.inl p)⟩)) Wq2)
 by_cases H:c.kind_=15
 ·by_cases y:c.kids_.length=0
  ·have e:decide ((0:Int)<(c.kids_.length:Int))=false:=G0b (by omega)
   simp only[G0b k2,G0b d,G0b l,G0b A,G0b p,G0h H,e,G0h y,G1a,G0v]
   exact Sim.w (Sim.put (Q0o [[102,110,32],c.name_]) Wq2)
  have e:decide ((0:Int)<(c.kids_.length:Int))=true:=G0h (by omega)
  simp only[G0b k2,G0b d,G0b l,G0b A,G0b p,G0h H,e,G0b y,G1a,G0v]
  exact Sim.w (Sim.put (Q0o [[102,110,32],c.name_]) (Sim.bind (Z3h [32,123] c.kids_ [125] q (hk (by omega))) Wq2)) (λst=>by rw[Q0t];simp only[G2o,G3k,G0n,G0e])
 have ac:c.kind_=16:=by omega
 simp only[G0b k2,G0b d,G0b l,G0b A,G0b p,G0b H,G0h ac,G1a,G0v]
 exact Sim.w (Sim.put (Q0o [[126]]) (Sim.bind (Z7b c.words_ F m) Wq2))
theorem V3a{w66:Cmd->Str->List Redir->Option (Str×List Redir)}{w152:Word->Str->List Redir->Option (Str×List Redir)}(c:Cmd)(C:rC c=true)(E:c.name_.length<=2000)(u:c.words_.length<=1000000)(q:c.kids_.length<=1000000)(y:c.redirs_.length<=1000000)
 (z:∀x∈c.words_,PS (w152 x) (pW x) (10000 * nW x-100)) (A:∀r∈c.redirs_,PS (F151 w152 r) (pR r) (10000 * nR r-50)) (hk:c.kind_≠17->∀x∈c.kids_,PS (w66 x) (pC x) (10000 * nC x-100))
 (F:∀k∈c.kids_,k.words_.length<=1000000/\k.kids_.length<=1000000/\(c.kind_=17->∀x∈k.words_,PS (w152 x) (pW x) (10000 * nW x-100))/\(c.kind_=17\/k.kind_=12->∀x∈k.kids_,PS (w66 x) (pC x) (10000 * nC x-100))):
 PS (F66 w66 w152 c) (pC c) (10000 * nC c-100):=by
 have I:=Q3y c
 have g:=λ(s:Str) (hs:s.length<=50) (H:c.kind_≠17)=>Z7d c.kids_ s hs q (hk H)
 delta F66
 by_cases a:c.kind_=14
 ·rw[funext (J0b c)]
  simp only[G0h a,G1a]
  exact Sim.w (Sim.bind (g [] (by simp) (by omega)) (Sim.put (Q0o [[32,38]]) Wq2))
 by_cases d:c.kind_=5
 ·rw[funext (J0b c)]
  simp only[G0b a,G0h d,G1a,G0v]
  exact Sim.w (Sim.bind (g [32,38,38,32] (by simp) (by omega)) Wq2)
 by_cases e:c.kind_=6
 ·rw[funext (J0b c)]
  simp only[G0b a,G0b d,G0h e,G1a,G0v]
  exact Sim.w (Sim.bind (g [32,124,124,32] (by simp) (by omega)) Wq2)
 by_cases f:c.kind_=3
 ·rw[funext (J0b c)]
  simp only[G0b a,G0b d,G0b e,G0h f,G1a,G0v]
  exact Sim.w (Sim.bind (g [32,124,32] (by simp) (by omega)) Wq2)
 by_cases l:c.kind_=7
 ·rw[funext (J0b c)]
  simp only[G0b a,G0b d,G0b e,G0b f,G0h l,G1a,G0v]
  exact Sim.w (Sim.put (Q0o [[33,32]]) (Sim.bind (g [] (by simp) (by omega)) Wq2))
 by_cases m:c.kind_=13
 ·rw[funext (J0b c)]
  simp only[G0b a,G0b d,G0b e,G0b f,G0b l,G0h m,G1a,G0v]
  exact Sim.w (Sim.put (Q0o [[64,32]]) (Sim.bind (g [] (by simp) (by omega)) Wq2))
 by_cases o:c.kind_=9
 ·rw[funext (J0b c)]
  simp only[G0b a,G0b d,G0b e,G0b f,G0b l,G0b m,G0h o,G1a,G0v]
  exact Sim.w (Sim.put (Q0o [[105,102,32,110,111,116,32]]) (Sim.bind (g [] (by simp) (by omega)) Wq2))
 by_cases p:c.kind_=12
 ·rw[funext (J0b c)]
  simp only[G0b a,G0b d,G0b e,G0b f,G0b l,G0b m,G0b o,G0h p,G1a,G0v]
  exact Sim.w (Sim.bind (Z3h [123] c.kids_ [125] q (hk (by omega))) (Sim.bind (Z7c c.redirs_ y A) Wq2))
 by_cases t:c.kind_=1
 ·rw[funext (J0b c)]
  simp only[G0b a,G0b d,G0b e,G0b f,G0b l,G0b m,G0b o,G0b p,G0h t,G1a,G0v]
  exact Sim.w (Sim.bind (K6i c u y z A) Wq2)
 simp only[G0b a,G0b d,G0b e,G0b f,G0b l,G0b m,G0b o,G0b p,G0b t,G0v]
 exact Sim.w (Sim.bind (K6h c C E u q ⟨a,d,e,f,l,m,o,p,t⟩ z hk F) Wq2)
theorem K6f{w66:Cmd->Str->List Redir->Option (Str×List Redir)}{w152:Word->Str->List Redir->Option (Str×List Redir)}(w:Word)(m:rW w=true)(q:w.text_.length<=2000)(e:w.words_.length<=1000000)(o:w.cmd_.length<=1000000)
 (f:∀x∈w.words_,PS (w152 x) (pW x) (10000 * nW x-100)) (hk:∀x∈w.cmd_,PS (w66 x) (pC x) (10000 * nC x-100)):
 PS (F152 w66 w152 w) (pW w) (10000 * nW w-100):=by
 have t:=Q7h w
 obtain⟨-,-,hq,u⟩:=X1e m
 rw[funext (Y5c w)]
 delta F152
 by_cases k1:w.kind_=1
 ·simp only[G0h k1,G1a]
  have y:(Q5q w.text_ w.quoted_).length<=8001:=by
   have:=J2x false w.text_ w.quoted_
   unfold Q5q
   cases decide (w.text_=[])<;>simp<;>omega
  exact Sim.w (Sim.put (K6d w (hq k1) (by omega)) Wq2)
 by_cases k2:w.kind_=2
 ·simp only[G0b k1,G0h k2,G1a,G0v]
  exact Sim.w (Sim.put (Q0o [[36],w.text_]) Wq2)
 by_cases a:w.kind_=3
 ·simp only[G0b k1,G0b k2,G0h a,G1a,G0v]
  exact Sim.w (Sim.put (Q0o [[36,35],w.text_]) Wq2)
 by_cases d:w.kind_=7
 ·simp only[G0b k1,G0b k2,G0b a,G0h d,G1a,G0v]
  exact Sim.w (Sim.put (Q0o [[36],w.text_]) (Sim.bind (J4o [40] w.words_ [32] [41] (by simp) e f) Wq2)) (λst=>by rw[Q0t];simp only[G2o,G3k,G0n,G1d,G0t])
 by_cases g:w.kind_=5
 ·simp only[G0b k1,G0b k2,G0b a,G0b d,G0h g,G1a,G0v]
  exact Sim.w (Sim.bind (J4o [40] w.words_ [32] [41] (by simp) e f) Wq2)
 by_cases l:w.kind_=4
 ·simp only[G0b k1,G0b k2,G0b a,G0b d,G0b g,G0h l,G1a,G0v]
  exact Sim.w (Sim.bind (J4o [] w.words_ [94] [] (by simp) e f) Wq2) (λst=>by rw[Q7s,Q7s])
 have p:w.kind_=6:=by omega
 simp only[G0b k1,G0b k2,G0b a,G0b d,G0b g,G0b l,G0h p,G1a,G0v]
 exact Sim.w (Sim.bind (Z3h [96,123] w.cmd_ [125] o hk) Wq2)
theorem X1i:∀n:Nat,(∀w:Word,nW w<n->nW w<=2000->smW w->rW w=true->PS (K152 n w) (pW w) (10000 * nW w-100))/\(∀c:Cmd,nC c<n->nC c<=2000->smC c->rC c=true->PS (K66 n c) (pC c) (10000 * nC c-100))
 | 0=>⟨λ_ h=>by omega,λ_ h=>by omega⟩
 | n+1=>by
   obtain⟨f,g⟩:=X1i n
   refine⟨λw y hb hs e=>?_,λc y hb hs e=>?_⟩
   ·show PS (F152 (K66 n) (K152 n) w) _ _
    have z:=Q7h w
    have A:=Q2e w.words_
    have C:=Q1m w.cmd_
    have o:=X1e e
    rw[Q8h]at hs
    exact K6f w e (by omega) (by omega) (by omega) (λx a=>f x (by have:=Q1o a;omega) (by have:=Q1o a;omega) (Q5k hs.2.2.1 a) (o.1 x a)) (λx a=>g x (by have:=Q0q a;omega) (by have:=Q0q a;omega) (Q1h hs.2.2.2 a) (o.2.1 x a))
   show PS (F66 (K66 n) (K152 n) c) _ _
   have z:=Q3y c
   have A:=Q2e c.words_
   have C:=Q1m c.kids_
   have O:=Q7u c.redirs_
   obtain⟨E,p,q,t,Q⟩:=J2w e
   rw[Q8i]at hs
   obtain⟨F,U,H,I,u⟩:=hs
   refine V3a c e F (by omega) (by omega) (by omega) (λx a=>f x (by have:=Q1o a;omega) (by have:=Q1o a;omega) (Q5k H a) (E x a)) (λr a=>?_) (λd x a=>g x (by have:=Q0q a;omega) (by have:=Q0q a;omega) (Q1h u a) (q d x a)) (λk hk=>?_)
   ·have J:=Q8t a
    have K:=Z3v r
    have l:=J2r I a
    rw[X0y]at l
    have L:=l
    rw[Q8h]at L
    exact K6g r (p r a) (by omega) (λhk=>f _ (by omega) (by omega) l (rR_w (p r a) hk))
   have J:=Q0q hk
   have K:=Q3y k
   have V:=Q2e k.words_
   have W:=Q1m k.kids_
   have m:=Q1h u hk
   rw[Q8i]at m
   refine⟨by omega,by omega,λd x a=>f x (by have:=Q1o a;omega) (by have:=Q1o a;omega) (Q5k m.2.2.1 a) ((Z7m (t d k hk)).1 x a),λX x a=>g x (by have:=Q0q a;omega) (by have:=Q0q a;omega) (Q1h m.2.2.2.2 a) ?_⟩
   by_cases d:c.kind_=17
   ·exact(Z7m (t d k hk)).2.1 x a
   have M:=q d k hk
   exact(J2w M).2.2.1 (by omega) x a
section
variable (c:Cmd)(nm:Str)(w r n:Nat)
end
section
variable (c:Cmd)
end
def Z5e(l:List Cmd):Bool:=(decide (szCs l<=1024)&&decide (dCs l<=32))&&l.all λc=>lvl 4 c.kind_&&rC c
theorem X7c{l:List Cmd}(h:Z5e l=true):∀x∈l,rC x=true:=λx a=>by
 rw[Z5e,G0d]at h
 have:=G0p.1 h.2 x a
 rw[G0d]at this
 exact this.2
theorem Y4d(l:List Cmd)(hb:nCs l<=2000)(hs:smCs l):F17 l=some (bif Z5e l then((pIts l ([],[])).1,0)else([],1)):=by
 have f:=Q1m l
 rw[F17,Y4k l hb hs,G0a]
 show(bif !Z5e l then _ else _)=_
 cases e:Z5e l with
 | false=>rfl
 | true=>
   obtain⟨l',d,-,-,-⟩:=J9v (w66:=K66 BIG) l (by omega) (λx a=>(X1i BIG).2 x (by have:=Q0q a;unfold BIG;omega) (by have:=Q0q a;omega) (Q1h hs a) (X7c e x a)) [] [] (λr h=>absurd h G2r) (by
    show([]:Str).length+(pend []).length+_<=LIM
    rw[show pend []=[] from rfl]
    unfold LIM
    simp only[G0z]
    omega)
   rw[show pend []=[] from rfl]at d
   rw[G0m,Q0a,d,G0a]
   rfl
theorem K3w:((List.range 256).all λi=>decide (isnc (i:Int)=Lx.nameB (UInt8.ofNat i))&&(!isnc (i:Int)||(ordB (UInt8.ofNat i)&&!([35,33,64]:Str).contains (UInt8.ofNat i))))=true:=by kernel_rfl
theorem J8k(c:UInt8):isnc (B c)=Lx.nameB c/\(isnc (B c)=true->ordB c=true/\([35,33,64]:Str).contains c=false):=by
 have h:=G0p.1 K3w c.toNat (G1y.2 c.toNat_lt)
 have e:UInt8.ofNat c.toNat=c:=G4o
 rw[e]at h
 show isnc ((c.toNat:Nat):Int)=_/\(isnc ((c.toNat:Nat):Int)=true->_)
 simp only[G0d,G2d,G0l,G5c]at h
 refine⟨h.1,λa=>?_⟩
 rcases h.2 with h|h
 ·rw[h]at a;cases a
 exact h
theorem Z6r{s:Str}(h:nameB s=true):nmL s/\okTQ s (zr s.length)=true/\hdW s (zr s.length)=true:=by
 rw[nameB,G0d,G0p]at h
 have a:∀c∈s,isnc (B c)=true:=λc a=>h.1 _ (G3r.2 ⟨c,a,rfl⟩)
 have e:s≠[]:=by simpa using h.2
 refine⟨⟨e,λc d=>(J8k c).1▸a c d⟩,J3e _ _ λc d=>.inr ⟨rfl,((J8k c).2 (a c d)).1⟩,?_⟩
 cases s with
 | nil=>rfl
 | cons c s=>
   show hdW (c::s) (List.replicate (s.length+1) 48)=true
   rw[G3g,hdW,((J8k c).2 (a c (G1g ..))).2]
   simp
theorem K9h:((List.range 256).all λi=>decide (spcB (i:Int)=Lx.SYMI.contains (UInt8.ofNat i))&&(decide ((decide ((i:Int)=35)||(decide ((i:Int)=33)||decide ((i:Int)=64)))=([35,33,64]:Str).contains (UInt8.ofNat i))&&(decide (decide ((i:Int)=48)=decide (UInt8.ofNat i=48))&&decide (decide ((i:Int)=49)=decide (UInt8.ofNat i=49)))))=true:=by kernel_rfl
theorem X0x(c:UInt8):spcB (B c)=Lx.SYMI.contains c/\(decide (B c=35)||(decide (B c=33)||decide (B c=64)))=([35,33,64]:Str).contains c/\decide (B c=48)=decide (c=48)/\decide (B c=49)=decide (c=49):=by
 have h:=G0p.1 K9h c.toNat (G1y.2 c.toNat_lt)
 have e:UInt8.ofNat c.toNat=c:=G4o
 rw[e]at h
 simp only[G0d,G0l]at h
 exact h
theorem X1m:∀ (t q:Str),q.length=t.length->(q.zip t).all okQ=true->okTQ t q=true
 | [],[],_,_=>rfl
 | c::t,x::q,a,h=>by
   rw[G6a,G2m,G0d]at h
   have f:=X1m t q (by simpa using a) h.2
   refine X7y ?_ f
   have d:=h.1
   obtain⟨m,-,g,l⟩:=X0x x
   rw[okQ,mkB,g,l,(X0x c).1,G0d,G2d,G0l,G0l]at d
   rcases d.1 with e|e
   ·refine .inr ⟨e,?_⟩
    rw[ordB]
    have:=d.2
    rw[G0h e,G0x]at this
    exact this
   exact .inl e
 | [],x::q,a,_=>by simp at a
 | c::t,[],a,_=>by simp at a
theorem K2w{t q:Str}(h:Z6a t q=true):okTQ t q=true/\hdW t q=true:=by
 rw[Z6a,G0d,G0d,G0l]at h
 refine⟨X1m t q h.1 h.2.1,?_⟩
 have a:=h.2.2
 cases t with
 | nil=>cases q<;>rfl
 | cons c t=>
   cases q with
   | nil=>rfl
   | cons x q=>
     rw[X8y,(X0x x).2.2.2,(X0x c).2.1]at a
     exact a
theorem K0z{R:List Atm}(d:endA R=true)(h:WF false R)(g:Bool):WF g R:=by
 cases R with
 | nil=>trivial
 | cons a r=>
   obtain⟨f,l,-,m⟩:=h
   refine⟨f,l,λ_=>?_,m⟩
   match a,d with
   | .sp,_=>rfl
   | .nl,_=>rfl
   | .s (c::x),d=>
     have e:([41,94,61,40]:Str).contains c=true:=d
     simp only[G3j,G4b,G3l,G2d,G3o]at e
     rcases e with rfl|rfl|rfl|rfl<;>rfl
theorem WF_w{t q:Str}{R:List Atm}(h:okTQ t q=true/\hdW t q=true)(a:endA R=true)(d:WF false R):WF false (.w t q::R):=
 ⟨h,a,λh=>Bool.noConfusion h,K0z a d _⟩
theorem WF_v{n:Str}{R:List Atm}(h:nmL n)(a:endA R=true)(d:WF false R):WF false (.v n::R):=⟨h,a,λh=>Bool.noConfusion h,K0z a d _⟩
theorem WF_k{n:Str}{R:List Atm}(h:nmL n)(a:endA R=true)(d:WF false R):WF false (.k n::R):=⟨h,a,λh=>Bool.noConfusion h,K0z a d _⟩
theorem Z3c{n:Str}{R:List Atm}(h:okTQ n (zr n.length)=true/\hdW n (zr n.length)=true)(a:endA R=true)(d:WF false R):WF false (ax n::R):=WF_w h a d
theorem J9k{g:Bool}{R:List Atm}(a:WF false R):WF g (.nl::R):=⟨trivial,trivial,λ_=>rfl,a⟩
theorem Q6a{g:Bool}{R:List Atm}(h:isSp R=false/\isNl R=false/\R≠[])(a:WF false R):WF g (.sp::R):=⟨trivial,h,λ_=>rfl,a⟩
theorem WF_s{x:Str}{R:List Atm}(h:okA (.s x))(a:nxA (.s x) R)(d:WF false R):WF false (.s x::R):=⟨h,a,λh=>Bool.noConfusion h,d⟩
def beg(R:List Atm):Prop:=isSp R=false/\isNl R=false/\R≠[]
theorem Q2a{a b:List Atm}(h:beg a):beg (a++b):=by
 cases a with
 | nil=>exact absurd rfl h.2.2
 | cons x a=>
   obtain⟨d,e,-⟩:=h
   refine⟨?_,?_,by simp⟩
   ·cases x<;>first|rfl|exact d
   cases x<;>first|rfl|exact e
theorem ok1{c:UInt8}(h:c≠32/\c≠9/\c≠10/\c≠35/\c≠92/\([c]:Str)≠[36]/\([c]:Str)≠[36,35]):okA (.s [c]):=⟨c,[],rfl,h⟩
theorem X7x{c:UInt8}{r:Str}(h:c=60\/c=62):okA (.s (c::r)):=by
 refine⟨c,r,rfl,?_⟩
 rcases h with rfl|rfl<;>refine⟨by decide,by decide,by decide,by decide,by decide,?_,?_⟩<;>simp
theorem ok2{c:UInt8}(h:c=38\/c=124):okA (.s [c,c]):=by
 refine⟨c,[c],rfl,?_⟩
 rcases h with rfl|rfl<;>refine⟨by decide,by decide,by decide,by decide,by decide,?_,?_⟩<;>decide
theorem WF_1{c:UInt8}{R:List Atm}(a:WF false R)(h:Lx.START.contains c=true:=by decide)(d:c≠38:=by decide)(e:c≠124:=by decide)(f:c≠36:=by decide)(g:c≠60:=by decide)(l:c≠32/\c≠9/\c≠10/\c≠35/\c≠92/\([c]:Str)≠[36]/\([c]:Str)≠[36,35]:=by decide):WF false (.s [c]::R):=
 WF_s (ok1 l) (.inl (V4p h d e f g)) a
theorem Q6x{k:Int}{t q:Str}{ws:List Word}{cs:List Cmd}(h:rW ⟨k,t,q,ws,cs⟩=true):
 (k=1/\Z6a t q=true/\ws=[]/\cs=[])\/((k=2\/k=3)/\nameB t=true/\q=[]/\ws=[]/\cs=[])\/(k=7/\nameB t=true/\q=[]/\ws≠[]/\cs=[]/\rWs ws=true) \/
 (k=5/\t=[]/\q=[]/\cs=[]/\rWs ws=true)\/(k=6/\t=[]/\q=[]/\ws=[]/\rUp cs 4=true)\/(k=4/\(ws.all λx=>!decide (x.kind_=4))=true/\t=[]/\q=[]/\1<ws.length/\cs=[]/\rWs ws=true):=by
 rw[rW]at h
 by_cases a:k=1
 ·subst a
  simp only[G4x,G1a,G0d,G0l,G7s,G1q]at h
  exact .inl ⟨rfl,h.1,h.2.1,h.2.2⟩
 by_cases d:k=2\/k=3
 ·have e:(decide (k=2)||decide (k=3))=true:=by simpa using d
  rw[G0b a,Q0a,e,Q0b]at h
  simp only[G0d,G0l,G7s,G1q]at h
  exact .inr (.inl ⟨d,h.1.1,h.1.2,h.2.1,h.2.2⟩)
 have e:(decide (k=2)||decide (k=3))=false:=by simpa using d
 rw[G0b a,Q0a,e,Q0a]at h
 by_cases f:k=7
 ·rw[G0h f,Q0b]at h
  simp only[G0d,G0l,G1q,G3z]at h
  exact .inr (.inr (.inl ⟨f,h.1.1.1.1,h.1.1.1.2,h.1.1.2,h.1.2,h.2⟩))
 rw[G0b f,Q0a]at h
 by_cases g:k=5
 ·rw[G0h g,Q0b]at h
  simp only[G0d,G0l,G1q]at h
  exact .inr (.inr (.inr (.inl ⟨g,h.1.1.1,h.1.1.2,h.1.2,h.2⟩)))
 rw[G0b g,Q0a]at h
 by_cases l:k=6
 ·rw[G0h l,Q0b]at h
  simp only[G0d,G0l,G1q]at h
  exact .inr (.inr (.inr (.inr (.inl ⟨l,h.1.1.1,h.1.1.2,h.1.2,h.2⟩))))
 rw[G0b l,Q0a]at h
 by_cases m:k=4
 ·rw[G0h m,Q0b]at h
  simp only[G0d,G0l,G1q]at h
  exact .inr (.inr (.inr (.inr (.inr ⟨m,h.1,h.2.1.1.1.1,h.2.1.1.1.2,h.2.1.1.2,h.2.1.2,h.2.2⟩))))
 rw[G0b m,Q0a]at h
 cases h
theorem Q4t{k a:Int}{nm:Str}{ws:List Word}{rs:List Redir}{ks:List Cmd}(h:rC ⟨k,a,nm,ws,rs,ks⟩=true):
 (k=1/\nm=[]/\0<ws.length+rs.length/\ks=[]/\rWs ws=true/\rRs rs=true/\(ws=[]\/Q5u ws=false)) \/
 (k=2/\nameB nm=true/\rs=[]/\ws.length=1/\ks.length<=1/\rWs ws=true/\rUp ks 1=true) \/
 ((k=7\/k=13\/k=9)/\nm=[]/\rs=[]/\ws=[]/\ks.length=1/\rUp ks 1=true) \/
 (k=14/\nm=[]/\rs=[]/\ws=[]/\ks.length=1/\rUp ks 3=true) \/
 ((k=8\/k=11)/\nm=[]/\rs=[]/\ws=[]/\ks.length=2/\rIf ks=true) \/
 ((k=5\/k=6)/\nm=[]/\rs=[]/\ws=[]/\ks.length=2/\rAnd ks=true) \/
 (k=10/\nameB nm=true/\rs=[]/\ks.length=1/\rWs ws=true/\rUp ks 1=true) \/
 (k=12/\nm=[]/\ws=[]/\rRs rs=true/\rUp ks 4=true) \/
 (k=15/\nameB nm=true/\rs=[]/\ws=[]/\rUp ks 4=true) \/
 (k=3/\nm=[]/\rs=[]/\ws=[]/\2<=ks.length/\rUp ks 1=true) \/
 (k=16/\nm=[]/\rs=[]/\ws≠[]/\ks=[]/\rWs ws=true) \/
 (k=17/\nm=[]/\rs=[]/\ws.length=1/\rWs ws=true/\Q3v ks=true):=by
 by_cases d:k=1
 ·subst d
  simp[rC,Q0x]at h
  exact .inl (⟨rfl,h.1.1.1.1,h.1.1.1.2.1,h.1.1.1.2.2,h.1.1.2,h.1.2,h.2⟩)
 by_cases e:k=2
 ·subst e
  simp[rC,Q0x]at h
  exact .inr (.inl (⟨rfl,h.1.1.1.1.1,h.1.1.1.1.2,h.1.1.1.2.1,h.1.1.1.2.2,h.1.1.2,h.2⟩))
 by_cases f:k=7
 ·subst f
  simp[rC,Q0x]at h
  exact .inr (.inr (.inl (⟨by simp,h.1.1.1.1.1,h.1.1.1.1.2,h.1.1.1.2.1,h.1.1.1.2.2,h.2⟩)))
 by_cases g:k=13
 ·subst g
  simp[rC,Q0x]at h
  exact .inr (.inr (.inl (⟨by simp,h.1.1.1.1.1,h.1.1.1.1.2,h.1.1.1.2.1,h.1.1.1.2.2,h.2⟩)))
 by_cases l:k=9
 ·subst l
  simp[rC,Q0x]at h
  exact .inr (.inr (.inl (⟨by simp,h.1.1.1.1.1,h.1.1.1.1.2,h.1.1.1.2.1,h.1.1.1.2.2,h.2⟩)))
 by_cases m:k=14
 ·subst m
  simp[rC,Q0x]at h
  exact .inr (.inr (.inr (.inl (⟨rfl,h.1.1.1.1.1,h.1.1.1.1.2,h.1.1.1.2.1,h.1.1.1.2.2,h.2⟩))))
 by_cases o:k=8
 ·subst o
  simp[rC,Q0x]at h
  exact .inr (.inr (.inr (.inr (.inl (⟨by simp,h.1.1.1.1.1,h.1.1.1.1.2,h.1.1.1.2.1,h.1.1.1.2.2,h.2⟩)))))
 by_cases p:k=11
 ·subst p
  simp[rC,Q0x]at h
  exact .inr (.inr (.inr (.inr (.inl (⟨by simp,h.1.1.1.1.1,h.1.1.1.1.2,h.1.1.1.2.1,h.1.1.1.2.2,h.2⟩)))))
 by_cases q:k=5
 ·subst q
  simp[rC,Q0x]at h
  exact .inr (.inr (.inr (.inr (.inr (.inl (⟨by simp,h.1.1.1.1.1,h.1.1.1.1.2,h.1.1.1.2.1,h.1.1.1.2.2,h.2⟩))))))
 by_cases t:k=6
 ·subst t
  simp[rC,Q0x]at h
  exact .inr (.inr (.inr (.inr (.inr (.inl (⟨by simp,h.1.1.1.1.1,h.1.1.1.1.2,h.1.1.1.2.1,h.1.1.1.2.2,h.2⟩))))))
 by_cases u:k=10
 ·subst u
  simp[rC,Q0x]at h
  exact .inr (.inr (.inr (.inr (.inr (.inr (.inl (⟨rfl,h.1.1.1.1.1,h.1.1.1.1.2,h.1.1.1.2,h.1.1.2,h.2⟩)))))))
 by_cases x:k=12
 ·subst x
  simp[rC,Q0x]at h
  exact .inr (.inr (.inr (.inr (.inr (.inr (.inr (.inl (⟨rfl,h.1.1.1.1,h.1.1.1.2,h.1.2,h.2⟩))))))))
 by_cases y:k=15
 ·subst y
  simp[rC,Q0x]at h
  exact .inr (.inr (.inr (.inr (.inr (.inr (.inr (.inr (.inl (⟨rfl,h.1.1.1.1.1,h.1.1.1.1.2,h.1.1.1.2,h.2⟩)))))))))
 by_cases z:k=3
 ·subst z
  simp[rC,Q0x]at h
  exact .inr (.inr (.inr (.inr (.inr (.inr (.inr (.inr (.inr (.inl (⟨rfl,h.1.1.1.1.1,h.1.1.1.1.2,h.1.1.1.2.1,h.1.1.1.2.2,h.2⟩))))))))))
 by_cases A:k=16
 ·subst A
  simp[rC,Q0x]at h
  exact .inr (.inr (.inr (.inr (.inr (.inr (.inr (.inr (.inr (.inr (.inl (⟨rfl,h.1.1.1.1.1,h.1.1.1.1.2,G3z.1 h.1.1.1.2.1,h.1.1.1.2.2,h.1.1.2⟩)))))))))))
 by_cases C:k=17
 ·subst C
  simp[rC,Q0x]at h
  exact .inr (.inr (.inr (.inr (.inr (.inr (.inr (.inr (.inr (.inr (.inr (⟨rfl,h.1.1.1.1.1,h.1.1.1.1.2,h.1.1.1.2,h.1.1.2,h.2⟩)))))))))))
 exfalso
 simp[rC,Q0x,d,e,f,g,l,m,o,p,q,t,u,x,y,z,A,C]at h
theorem V1z{k:Int}{n:Int}(h:k≠n):decide (k=n)=false:=G0b h
theorem Z5s:∀ (w:Word),rW w=true->beg (aW w)
 | ⟨k,t,q,ws,cs⟩,h=>by
   rcases Q6x h with⟨rfl,-⟩|⟨rfl|rfl,-⟩|⟨rfl,-⟩|⟨rfl,-⟩|⟨rfl,-⟩|⟨rfl,-,-,-,d,-,a⟩
   ·exact⟨rfl,rfl,by simp[aW]⟩
   ·exact⟨rfl,rfl,by simp[aW]⟩
   ·exact⟨rfl,rfl,by simp[aW]⟩
   ·exact⟨rfl,rfl,by simp[aW]⟩
   ·exact⟨rfl,rfl,by simp[aW]⟩
   ·exact⟨rfl,rfl,by simp[aW]⟩
   cases ws with
   | nil=>simp at d
   | cons w r=>
     rw[rWs,G0d]at a
     have:=Z5s w a.1
     have e:aW ⟨4,t,q,w::r,cs⟩=aW w++aSep r [.s [94]] false:=by
      rw[aW,aSep]
      rfl
     rw[e]
     exact Q2a this
def Sep(s:List Atm):Prop:=s=[.sp]\/s=[.s [94]]
theorem K4x{s:List Atm}(hs:Sep s)(x:List Atm):endA (s++x)=true:=by
 rcases hs with rfl|rfl<;>rfl
theorem Y1t{s:List Atm}(hs:Sep s){R:List Atm}(h:beg R)(a:WF false R):WF false (s++R):=by
 rcases hs with rfl|rfl
 ·exact Q6a h a
 exact WF_1 a
theorem Q9c{s:List Atm}(hs:Sep s){R:List Atm}(a:endA R=true):∀ (ws:List Word),endA (aSep ws s false++R)=true
 | []=>by rw[aSep];exact a
 | w::r=>by
   rw[aSep,Q0a,G0e]
   exact K4x hs _
theorem Q0v{a:Atm}{R:List Atm}(h:isSp (a::R)=false:=by rfl)(d:isNl (a::R)=false:=by rfl):beg (a::R):=⟨h,d,by simp⟩
theorem K5n{w:Word}{r:List Word}(h:rW w=true)(s:List Atm):beg (aSep (w::r) s true):=by
 rw[aSep,Q0b,G0t]
 exact Q2a (Z5s w h)
theorem K8a{d:Redir}:beg (aR d):=by
 rw[Y8t]
 cases decide (d.kind_=1)with
 | true=>exact Q0v
 | false=>
 cases decide (d.kind_=2)with
 | true=>exact Q0v
 | false=>
 cases decide (d.kind_=3)with
 | true=>exact Q0v
 | false=>
 cases decide (d.kind_=5)with
 | true=>exact Q0v
 | false=>
 cases decide (d.kind_=6)with
 | true=>exact Q0v
 | false=>exact Q0v
theorem Q8s{c:Cmd}{m:Int}(h:rUp [c] m=true):lvl m c.kind_=true/\rC c=true:=by
 rw[rUp,G0d,G0d]at h
 exact h.1
theorem len1{α:Type}{l:List α}(h:l.length=1):∃a,l=[a]:=by
 match l,h with
 | [a],_=>exact⟨a,rfl⟩
theorem len2{α:Type}{l:List α}(h:l.length=2):∃a b,l=[a,b]:=by
 match l,h with
 | [a,b],_=>exact⟨a,b,rfl⟩
theorem X1x{m k:Int}(h:lvl m k=true)(a:m<=3):k≠14:=by
 rintro rfl
 have:lev 14=4:=rfl
 rw[lvl,this]at h
 simp at h
 omega
theorem X2j{R:List Atm}(a:endA R=true):∀ (l:List Redir),endA (aRs l false++R)=true
 | []=>by rw[aRs];exact a
 | d::r=>by rw[aRs];rfl
theorem Q4r(c:Cmd)(s:List Atm):aJ [c] s true=aC c:=by
 rw[aJ,aJ,Q0b,G0t,G0n]
theorem Q3x:∀ (c:Cmd),rC c=true->beg (aC c)
 | ⟨k,a,nm,ws,rs,ks⟩,h=>by
   rcases Q4t h with⟨rfl,-,f,-,e,-⟩|⟨rfl,-⟩|⟨rfl|rfl|rfl,-⟩|⟨rfl,-,-,-,f,e⟩|⟨rfl|rfl,-⟩|⟨rfl|rfl,-,-,-,f,e⟩|⟨rfl,-⟩|⟨rfl,-⟩|⟨rfl,-⟩|⟨rfl,-,-,-,f,e⟩|⟨rfl,-⟩|⟨rfl,-⟩
   ·rw[aC]
    show beg (aSep ws [.sp] true++aRs rs (decide (ws=[])))
    cases ws with
    | nil=>
      cases rs with
      | nil=>simp at f
      | cons d r=>
        rw[aSep,G0t,aRs]
        show beg ([]++(aR d++aRs r false))
        rw[G0t]
        exact Q2a (K8a (d:=d))
    | cons w r=>
      rw[rWs,G0d]at e
      exact Q2a (K5n e.1 _)
   ·rw[aC];exact Q0v
   ·rw[aC];exact Q0v
   ·rw[aC];exact Q0v
   ·rw[aC];exact Q0v
   ·rw[aC]
    show beg (aJ ks [] true++[.sp,.s [38]])
    match ks,f,e with
    | [c],_,e=>
      rw[Q4r]
      exact Q2a (Q3x c (Q8s e).2)
   ·rw[aC];exact Q0v
   ·rw[aC];exact Q0v
   ·rw[aC]
    show beg (aJ ks [.sp,.s [38,38],.sp] true)
    match ks,f,e with
    | [c,d],_,e=>
      rw[rAnd,G0d,G0d]at e
      rw[aJ,Q0b,G0t]
      exact Q2a (Q3x c e.1.2)
   ·rw[aC]
    show beg (aJ ks [.sp,.s [124,124],.sp] true)
    match ks,f,e with
    | [c,d],_,e=>
      rw[rAnd,G0d,G0d]at e
      rw[aJ,Q0b,G0t]
      exact Q2a (Q3x c e.1.2)
   ·rw[aC];exact Q0v
   ·rw[aC];exact Q0v
   ·rw[aC];exact Q0v
   ·rw[aC]
    show beg (aJ ks [.sp,.s [124],.sp] true)
    match ks,f,e with
    | c::r,_,e=>
      rw[rUp,G0d,G0d]at e
      rw[aJ,Q0b,G0t]
      exact Q2a (Q3x c e.1.2)
   ·rw[aC];exact Q0v
   rw[aC];exact Q0v
def SepC(s:List Atm):Prop:=s=[.sp,.s [38,38],.sp]\/s=[.sp,.s [124,124],.sp]\/s=[.sp,.s [124],.sp]
theorem X9s{s:List Atm}(hs:SepC s)(x:List Atm):endA (s++x)=true:=by
 rcases hs with rfl|rfl|rfl<;>rfl
theorem K0y{s:List Atm}(hs:SepC s){R:List Atm}(h:beg R)(a:WF false R):WF false (s++R):=by
 rcases hs with rfl|rfl|rfl
 ·exact Q6a Q0v (WF_s (ok2 (.inl rfl)) (.inl K3c) (Q6a h a))
 ·exact Q6a Q0v (WF_s (ok2 (.inr rfl)) (.inl K9a) (Q6a h a))
 exact Q6a Q0v (WF_s (ok1 (by decide)) (.inr (.inl ⟨K2y,rfl⟩)) (Q6a h a))
theorem K4d{t:Str}(h:nameB t=true):okTQ t (zr t.length)=true/\hdW t (zr t.length)=true:=(Z6r h).2
theorem Z7l{k fd a:Int}{w:Word}{raw:Bool}(h:rR ⟨k,fd,a,w,raw⟩=true):
 (0<=fd/\fd<64/\0<=a/\a<64)/\(((k=1\/k=2\/k=3)/\a=0/\raw=false/\rW w=true)\/(k=5/\raw=false/\Z8e w=true)\/(k=6/\a=0/\raw=false/\Z8e w=true)\/(k=4/\a=0/\J8p fd w=true)):=by
 rw[rR]at h
 cases d:(((((decide (fd<0)||decide (64<=fd))||decide (a<0))||decide (64<=a))||(!decide (k=5)&&!decide (a=0)))||(!decide (k=4)&&raw))with
 | true=>rw[d,Q0b]at h;cases h
 | false=>
   rw[d,Q0a]at h
   simp only[G2n,G4j,Bool.and_eq_false_iff,Bool.not_eq_false',G0l]at d
   obtain⟨⟨⟨⟨⟨o,p⟩,q⟩,t⟩,f⟩,g⟩:=d
   refine⟨⟨by omega,by omega,by omega,by omega⟩,?_⟩
   by_cases l:k=1\/k=2\/k=3
   ·have e:(decide (k=1)||(decide (k=2)||decide (k=3)))=true:=by simpa using l
    rw[e,Q0b]at h
    exact .inl ⟨l,f.resolve_left (by omega),g.resolve_left (by omega),h⟩
   have e:(decide (k=1)||(decide (k=2)||decide (k=3)))=false:=by simpa using l
   rw[e,Q0a]at h
   by_cases hb:k=5
   ·subst hb
    exact .inr (.inl ⟨rfl,g.resolve_left (by omega),h⟩)
   by_cases hd:k=6
   ·subst hd
    exact .inr (.inr (.inl ⟨rfl,f.resolve_left (by omega),g.resolve_left (by omega),h⟩))
   by_cases m:k=4
   ·subst m
    exact .inr (.inr (.inr ⟨rfl,f.resolve_left (by omega),h⟩))
   exfalso
   rw[G0b hb,G0b hd,G0b m]at h
   cases h
theorem Z6x{fd:Int}{w:Word}(h:J8p fd w=true):fd=0/\w.kind_=1/\w.quoted_=List.replicate w.text_.length 48/\w.words_=[]/\w.cmd_=[]/\Z6d w.text_:=by
 rw[J8p,J6d]at h
 simp only[G0d,G2d,G0l,G7s,G1q]at h
 exact⟨h.1.1.1.1,h.1.1.1.2,h.1.1.2,h.1.2.1,h.1.2.2,h.2⟩
theorem kif:okTQ [105,102] (zr 2)=true/\hdW [105,102] (zr 2)=true:=⟨rfl,rfl⟩
mutual
theorem wfW:∀ (w:Word) (R:List Atm),rW w=true->endA R=true->WF false R->WF false (aW w++R)
 | ⟨k,t,q,ws,cs⟩,R,h,f,a=>by
   rcases Q6x h with⟨rfl,e,-⟩|⟨rfl|rfl,e,-⟩|⟨rfl,e,-,-,-,d⟩|⟨rfl,-,-,-,d⟩|⟨rfl,-,-,-,d⟩|⟨rfl,-,-,-,-,-,d⟩
   ·rw[aW]
    exact WF_w (K2w e) f a
   ·rw[aW]
    exact WF_v (Z6r e).1 f a
   ·rw[aW]
    exact WF_k (Z6r e).1 f a
   ·rw[aW]
    show WF false (.v t::.s [40]::((aSep ws [.sp] true++[.s [41]])++R))
    rw[G0e]
    exact WF_v (Z6r e).1 rfl (WF_1 (Z9z ws [.sp] true _ d (.inl rfl) rfl (WF_1 a)))
   ·rw[aW]
    show WF false (.s [40]::((aSep ws [.sp] true++[.s [41]])++R))
    rw[G0e]
    exact WF_1 (Z9z ws [.sp] true _ d (.inl rfl) rfl (WF_1 a))
   ·rw[aW]
    show WF false (.s [96]::.s [123]::.nl::((aIts cs++[.s [125]])++R))
    rw[G0e]
    exact WF_1 (WF_1 (J9k (J2n cs _ d (WF_1 a))))
   rw[aW]
   exact Z9z ws [.s [94]] true _ d (.inr rfl) f a
theorem Z9z:∀ (l:List Word) (s:List Atm) (f:Bool) (R:List Atm),rWs l=true->Sep s->endA R=true->WF false R->WF false (aSep l s f++R)
 | [],_,_,_,_,_,_,a=>by rw[aSep];exact a
 | w::r,s,f,R,h,hs,d,a=>by
   rw[rWs,G0d]at h
   rw[aSep,G0e,G0e]
   have e:=wfW w (aSep r s false++R) h.1 (Q9c hs d r) (Z9z r s false R h.2 hs d a)
   cases f with
   | true=>exact e
   | false=>exact Y1t hs (Q2a (Z5s w h.1)) e
theorem wfC:∀ (c:Cmd) (R:List Atm),rC c=true->endA R=true->(c.kind_=14->isNl R=true)->WF false R->WF false (aC c++R)
 | ⟨k,a,nm,ws,rs,ks⟩,R,h,g,p,l=>by
   rcases Q4t h with⟨rfl,-,f,-,e,m,-⟩|⟨rfl,o,-,-,f,e,m⟩|⟨rfl|rfl|rfl,-,-,-,f,e⟩|⟨rfl,-,-,-,f,e⟩|⟨rfl|rfl,-,-,-,f,e⟩|⟨rfl|rfl,-,-,-,f,e⟩|⟨rfl,o,-,f,e,m⟩|⟨rfl,-,-,f,e⟩|⟨rfl,o,-,-,e⟩|⟨rfl,-,-,-,f,e⟩|⟨rfl,-,-,-,-,e⟩|⟨rfl,-,-,-,f,e⟩
   ·rw[aC]
    show WF false ((aSep ws [.sp] true++aRs rs (decide (ws=[])))++R)
    rw[G0e]
    cases ws with
    | nil=>
      rw[aSep]
      exact wfRs rs true R m g l
    | cons w r=>exact Z9z (w::r) [.sp] true _ e (.inl rfl) (X2j g rs) (wfRs rs false R m g l)
   ·rw[aC]
    show WF false (ax nm::.s [61]::((aSep ws [.sp] true++((bif decide (ks.length=0)then[]else[.sp])++aJ ks [] true))++R))
    rw[G0e,G0e]
    have hk:=wfJ0 ks 1 R m f (by decide) g l
    refine Z3c (K4d o) rfl (WF_1 (Z9z ws [.sp] true _ e (.inl rfl) ?_ ?_))
    ·cases ks with
     | nil=>rw[aJ];exact g
     | cons c r=>rfl
    match ks,f,m,hk with
    | [],_,_,hk=>exact hk
    | [c],_,m,hk=>
      refine Q6a ?_ hk
      show beg (aJ [c] [] true++R)
      rw[Q4r]
      exact Q2a (Q3x c (Q8s m).2)
    | c::d::r,f,_,_=>simp at f
   ·rw[aC]
    exact WF_1 (Q6a (by
     match ks,f,e with
     | [c],_,e=>rw[Q4r];exact Q2a (Q3x c (Q8s e).2)) (wfJ0 ks 1 R e (by omega) (by decide) g l))
   ·rw[aC]
    exact WF_1 (Q6a (by
     match ks,f,e with
     | [c],_,e=>rw[Q4r];exact Q2a (Q3x c (Q8s e).2)) (wfJ0 ks 1 R e (by omega) (by decide) g l))
   ·rw[aC]
    exact Z3c kif rfl (Q6a Q0v (Z3c (n:=[110,111,116]) ⟨rfl,rfl⟩ rfl (Q6a (by
     match ks,f,e with
     | [c],_,e=>rw[Q4r];exact Q2a (Q3x c (Q8s e).2)) (wfJ0 ks 1 R e (by omega) (by decide) g l))))
   ·rw[aC]
    show WF false ((aJ ks [] true++[.sp,.s [38]])++R)
    rw[G0e]
    exact wfJ0 ks 3 _ e (by omega) (by decide) rfl (Q6a Q0v (WF_s (ok1 (by decide)) (.inr (.inr ⟨rfl,p rfl⟩)) l))
   ·rw[aC]
    exact Z3c kif rfl (WF_1 (wfT ks R e f g l))
   ·rw[aC]
    exact Z3c (n:=[119,104,105,108,101]) ⟨rfl,rfl⟩ rfl (WF_1 (wfT ks R e f g l))
   ·rw[aC]
    exact wfA ks _ R e f (.inl rfl) g l
   ·rw[aC]
    exact wfA ks _ R e f (.inr (.inl rfl)) g l
   ·rw[aC]
    show WF false (ax [102,111,114]::.s [40]::ax nm::.sp::ax [105,110]::((aSep ws [.sp] false++(.s [41]::.sp::aJ ks [] true))++R))
    rw[G0e]
    have hk:=wfJ0 ks 1 R m (by omega) (by decide) g l
    refine Z3c (n:=[102,111,114]) ⟨rfl,rfl⟩ rfl (WF_1 (Z3c (K4d o) rfl (Q6a Q0v (Z3c (n:=[105,110]) ⟨rfl,rfl⟩ (Q9c (.inl rfl) rfl ws) (Z9z ws [.sp] false _ e (.inl rfl) rfl (WF_1 (Q6a ?_ hk)))))))
    match ks,f,m with
    | [c],_,m=>rw[Q4r];exact Q2a (Q3x c (Q8s m).2)
   ·rw[aC]
    show WF false (.s [123]::.nl::((aIts ks++(.s [125]::aRs rs false))++R))
    rw[G0e]
    exact WF_1 (J9k (J2n ks _ e (WF_1 (wfRs rs false R f g l))))
   ·rw[aC]
    show WF false (ax [102,110]::.sp::ax nm::((bif decide (ks.length=0)then[]else .sp::.s [123]::.nl::(aIts ks++[.s [125]]))++R))
    refine Z3c (n:=[102,110]) ⟨rfl,rfl⟩ rfl (Q6a Q0v ?_)
    cases decide (ks.length=0)with
    | true=>exact Z3c (K4d o) g l
    | false=>
      refine Z3c (K4d o) rfl (Q6a Q0v (WF_1 (J9k ?_)))
      show WF false ((aIts ks++[.s [125]])++R)
      rw[G0e]
      exact J2n ks _ e (WF_1 l)
   ·rw[aC]
    exact wfP ks true R e g l
   ·rw[aC]
    exact Z3c (n:=[126]) ⟨rfl,rfl⟩ (Q9c (.inl rfl) g ws) (Z9z ws [.sp] false R e (.inl rfl) g l)
   rw[aC]
   show WF false (ax [115,119,105,116,99,104]::((aSep ws [.sp] false++(.sp::.s [123]::.nl::(aCs ks++[.s [125]])))++R))
   rw[G0e]
   refine Z3c (n:=[115,119,105,116,99,104]) ⟨rfl,rfl⟩ (Q9c (.inl rfl) rfl ws) (Z9z ws [.sp] false _ f (.inl rfl) rfl (Q6a Q0v (WF_1 (J9k ?_))))
   show WF false ((aCs ks++[.s [125]])++R)
   rw[G0e]
   exact wfCs ks _ e (WF_1 l)
theorem J2n:∀ (l:List Cmd) (R:List Atm),rUp l 4=true->WF false R->WF false (aIts l++R)
 | [],_,_,a=>by rw[aIts];exact a
 | c::r,R,h,a=>by
   rw[rUp,G0d,G0d]at h
   rw[aIts,G0e]
   exact wfC c _ h.1.2 rfl (λ_=>rfl) (J9k (J2n r R h.2 a))
theorem wfJ0:∀ (l:List Cmd) (m:Int) (R:List Atm),rUp l m=true->l.length<=1->m<=3->endA R=true->WF false R->WF false (aJ l [] true++R)
 | [],_,_,_,_,_,_,a=>by rw[aJ];exact a
 | [c],m,R,h,_,f,g,a=>by
   rw[Q4r]
   rw[rUp,G0d,G0d]at h
   exact wfC c R h.1.2 g (λe=>absurd e (X1x h.1.1 f)) a
 | c::d::r,_,_,_,h,_,_,_=>by simp at h
theorem wfT:∀ (l:List Cmd) (R:List Atm),rIf l=true->l.length=2->endA R=true->WF false R->WF false (aT l++R)
 | [],_,_,h,_,_=>by simp at h
 | c::r,R,h,a,e,f=>by
   rw[rIf,G0d,G0d,G0d,G0l,G0l]at h
   rw[aT]
   show WF false (.nl::((aK c++(.s [41]::.sp::aJ r [] true))++R))
   rw[G0e]
   refine J9k (wfK c _ h.1.2 h.1.1.1 (WF_1 (Q6a ?_ (wfJ0 r 1 R h.2 (by simp at a;omega) (by decide) e f))))
   match r,a,h with
   | [d],_,h=>rw[Q4r];exact Q2a (Q3x d (Q8s h.2).2)
theorem wfK:∀ (c:Cmd) (R:List Atm),rC c=true->c.kind_=12->WF false R->WF false (aK c++R)
 | ⟨k,a,nm,ws,rs,ks⟩,R,h,hk,d=>by
   have e:k=12:=hk
   subst e
   rw[aK]
   refine J2n ks R ?_ d
   simp[rC,Q0x]at h
   exact h.2
theorem wfA:∀ (l:List Cmd) (s:List Atm) (R:List Atm),rAnd l=true->l.length=2->SepC s->endA R=true->WF false R->WF false (aJ l s true++R)
 | [],_,_,_,h,_,_,_=>by simp at h
 | [c],_,_,_,h,_,_,_=>by simp at h
 | [c,d],s,R,h,_,hs,g,m=>by
   rw[rAnd,G0d,G0d]at h
   obtain⟨⟨o,p⟩,a⟩:=h
   rw[rUp,G0d,G0d]at a
   obtain⟨⟨q,f⟩,-⟩:=a
   have e:aJ [c,d] s true=aC c++(s++aC d):=by
    rw[aJ,aJ,aJ,Q0b,Q0a,G0t,G0n]
   rw[e,G0e,G0e]
   exact wfC c _ p (X9s hs _) (λe=>absurd e (X1x o (by decide))) (K0y hs (Q2a (Q3x d f)) (wfC d R f g (λe=>absurd e (X1x q (by decide))) m))
 | c::d::e::r,_,_,_,h,_,_,_=>by simp at h
theorem wfP:∀ (l:List Cmd) (f:Bool) (R:List Atm),rUp l 1=true->endA R=true->WF false R->WF false (aJ l [.sp,.s [124],.sp] f++R)
 | [],_,_,_,_,a=>by rw[aJ];exact a
 | c::r,f,R,h,g,a=>by
   rw[rUp,G0d,G0d]at h
   rw[aJ,G0e,G0e]
   have m:=wfC c (aJ r [.sp,.s [124],.sp] false++R) h.1.2 (by
    cases r with
    | nil=>rw[aJ];exact g
    | cons d r=>rw[aJ];rfl) (λe=>absurd e (X1x h.1.1 (by decide))) (wfP r false R h.2 g a)
   cases f with
   | true=>exact m
   | false=>exact K0y (.inr (.inr rfl)) (Q2a (Q3x c h.1.2)) m
theorem wfCs:∀ (l:List Cmd) (R:List Atm),Q3v l=true->WF false R->WF false (aCs l++R)
 | [],_,_,a=>by rw[aCs];exact a
 | c::r,R,h,a=>by
   rw[Q3v,G0d]at h
   rw[aCs,G0e]
   exact wfCa c _ h.1 (wfCs r R h.2 a)
theorem wfCa:∀ (c:Cmd) (R:List Atm),Q5p c=true->WF false R->WF false (aCa c++R)
 | ⟨k,a,nm,ws,rs,ks⟩,R,h,d=>by
   rw[Q5p]at h
   simp only[G0d]at h
   rw[aCa]
   show WF false (ax [99,97,115,101]::((aSep ws [.sp] false++(.nl::aIts ks))++R))
   rw[G0e]
   exact Z3c (n:=[99,97,115,101]) ⟨rfl,rfl⟩ (Q9c (.inl rfl) rfl ws) (Z9z ws [.sp] false _ h.1.2 (.inl rfl) rfl (J9k (J2n ks R h.2 d)))
theorem wfR:∀ (d:Redir) (R:List Atm),rR d=true->endA R=true->WF false R->WF false (aR d++R)
 | ⟨k,fd,p,w,raw⟩,R,h,l,e=>by
   obtain⟨⟨f,g,m,o⟩,hk⟩:=Z7l h
   rcases hk with⟨rfl|rfl|rfl,-,-,a⟩|⟨rfl,-,a⟩|⟨rfl,-,-,a⟩|⟨rfl,-,a⟩
   ·rw[aR]
    exact WF_s (X7x (.inl rfl)) (.inr (.inl ⟨K8z f g,rfl⟩)) (Q6a (Q2a (Z5s w a)) (wfW w R a l e))
   ·rw[aR]
    exact WF_s (X7x (.inr rfl)) (.inr (.inl ⟨K2x f g,rfl⟩)) (Q6a (Q2a (Z5s w a)) (wfW w R a l e))
   ·rw[aR]
    exact WF_s (X7x (.inr rfl)) (.inr (.inl ⟨K2z f g,rfl⟩)) (Q6a (Q2a (Z5s w a)) (wfW w R a l e))
   ·rw[aR]
    exact WF_s (X7x (.inr rfl)) (.inl (K3a f g m o)) e
   ·rw[aR]
    exact WF_s (X7x (.inr rfl)) (.inl (X3s f g)) e
   rw[aR]
   exact⟨(Z6x a).2.2.2.2.2,l,λh=>Bool.noConfusion h,e⟩
theorem wfRs:∀ (l:List Redir) (f:Bool) (R:List Atm),rRs l=true->endA R=true->WF false R->WF false (aRs l f++R)
 | [],_,_,_,_,a=>by rw[aRs];exact a
 | d::r,f,R,h,e,a=>by
   rw[rRs,G0d]at h
   rw[aRs,G0e,G0e]
   have g:=wfR d (aRs r false++R) h.1 (X2j e r) (wfRs r false R h.2 e a)
   cases f with
   | true=>exact g
   | false=>exact Q6a (R:=aR d++(aRs r false++R)) (Q2a K8a) g
end
theorem X2i:∀ (a b:List Atm),endN b->b≠[]->endN (a++b)
 | [],_,h,_=>h
 | [x],b,h,hb=>by
   cases b with
   | nil=>exact absurd rfl hb
   | cons y b=>exact h
 | x::y::a,b,h,hb=>X2i (y::a) b h hb
theorem Z6z:∀l:List Cmd,endN (aIts l)
 | []=>by rw[aIts];trivial
 | c::r=>by
   rw[aIts]
   refine X2i _ _ ?_ (by simp)
   have d:=Z6z r
   cases h:aIts r with
   | nil=>rfl
   | cons a b=>rw[h]at d;exact d
def txt(l:List Cmd):Str:=dl (aIts l) ([],[])
def tkn(l:List Cmd):List Token:=tks (aIts l) ([],[])
theorem K9l{l:List Cmd}(h:rUp l 4=true):F19 (txt l)=some (tkn l,0,0)\/∃q,F19 (txt l)=some ([],q,4):=by
 by_cases d:(txt l).length<=65536
 ·have a:=J2n l [] h trivial
  rw[G0n]at a
  have:=J8h (aIts l) ([],[]) false false [] [] [] ((txt l).length+1) a rfl Wt.nil (λ_=>rfl) (Z6z l) (λh=>by cases h) (λh=>by cases h) (by
   show(([]:Str)++dl (aIts l) ([],[])).length<_
   rw[G0t]
   exact Nat.lt_succ_self _)
  have e:=Lx.F5_eq (txt l) d
  have f:bsA false++dl (aIts l) ([],[])=txt l:=rfl
  rw[f]at this
  rcases this with⟨q,h⟩|h
  ·have h':Lx.lex ((txt l).length+1) 0 (txt l) [] []=.error (q,4):=h
   rw[h']at e
   exact .inr ⟨q,e.1⟩
  have h':Lx.lex ((txt l).length+1) 0 (txt l) [] []=.ok (tkn l):=h
  rw[h']at e
  exact .inl e
 refine .inr ⟨0,?_⟩
 rw[F19,G0h (by omega),Q0b]
theorem X8w{S pre e X:Str}(f:S.length<=1000000)(q:(10:UInt8)∉e):∀ (n:Nat) (t d:Str) (m:Nat),t.length<=n->Z6d t->e∉Q0l 10 t\/t=[]->S=pre++d++(t++(e++10::X))->t.length<m->
 iter (Q2i S e (pre.length:Int)) m ((pre++d).length:Int)=some (d++t,(((pre++d).length+(t.length+(e.length+1)):Nat):Int),0)
 | n,t,d,0,_,_,_,_,h=>absurd h (G2q _)
 | n,t,d,m+1,H,y,z,hS,I=>by
   show Q2i S _ _ _ _=_
   have u:decide (((pre++d).length:Int)<(S.length:Int))=true:=G0h (by rw[hS];simp only[G0g,G0i];omega)
   by_cases g:t=[]
   ·subst g
    rw[G0t]at hS
    have J:S.length=(pre++d).length+(e.length+(X.length+1)):=by rw[hS];simp only[G0g,G0i]
    rw[Q2i,u,Q0b,Lx.scan15 S e _ _ _ f e (pre++d) (10::X) BIG q (by rw[hS];simp) (.inr ⟨X,rfl⟩) (by unfold BIG;omega)]
    have l:Q0n S ((pre++d).length:Int) ((pre++d++e).length:Int)=some e:=by
     have:S=(pre++d)++e++10::X:=by rw[hS];simp
     rw[this]
     exact Lx.sslice_part (pre++d) e (10::X)
    have A:Q0n S (pre.length:Int) ((pre++d).length:Int)=some d:=by
     rw[hS]
     exact Lx.sslice_part pre d _
    rw[l,G0a,A,G0h rfl,Q0b,G0a,G0n]
    have K:(pre++d++e).length=(pre++d).length+e.length:=G0g
    have:imin (((pre++d++e).length:Int)+1) (S.length:Int)=(((pre++d).length+(([]:Str).length+(e.length+1)):Nat):Int):=by
     unfold imin
     rw[G0z]
     split<;>omega
    rw[this]
   obtain⟨a,b,rfl,x,hb⟩:=J6c y g
   have o:e∉Q0l 10 (a++10::b):=z.resolve_right g
   rw[Z8a b a x,G1j,not_or]at o
   have L:(a++10::b).length=a.length+b.length+1:=by simp only[G0g,G0i];omega
   cases n with
   | zero=>omega
   | succ n=>
     have C:S=pre++(d++(a++[10]))++(b++(e++10::X)):=by rw[hS];simp
     rw[Q2i,u,Q0b,Lx.scan15 S e _ _ _ f a (pre++d) (10::(b++(e++10::X))) BIG x (by rw[hS];simp) (.inr ⟨_,rfl⟩) (by
      have:a.length<=S.length:=by rw[hS];simp only[G0g,G0i];omega
      unfold BIG;omega)]
     have l:Q0n S ((pre++d).length:Int) ((pre++d++a).length:Int)=some a:=by
      have:S=(pre++d)++a++10::(b++(e++10::X)):=by rw[hS];simp
      rw[this]
      exact Lx.sslice_part (pre++d) a _
     rw[l,G0a,G0b (λh=>o.1 h.symm),Q0a]
     have p:=X8w f q n b (d++(a++[10])) m (by omega) hb (.inl o.2) C (by omega)
     have E:(pre++(d++(a++[10]))).length=(pre++d++a).length+1:=by simp only[G0g,G0i,G0z];omega
     have M:(pre++d++a).length=(pre++d).length+a.length:=G0g
     rw[E]at p
     have F:(((pre++d++a).length+1:Nat):Int)=((pre++d++a).length:Int)+1:=by omega
     rw[F]at p
     rw[p,G0e,G0e,G8w]
     have:(pre++d++a).length+1+(b.length+(e.length+1))=(pre++d).length+((a++10::b).length+(e.length+1)):=by omega
     rw[this]
theorem V6l{S pre t X:Str}(a:S.length<=1000000)(d:Z6d t)(hS:S=pre++(t++(mark t++10::X))):hre S (pre.length:Int) (mark t)=(t,(((pre++(t++(mark t++[10]))).length:Nat):Int),0):=by
 have f:S.length=pre.length+(t.length+((mark t).length+(X.length+1))):=by rw[hS];simp only[G0g,G0i]
 have h:=X8w (S:=S) (pre:=pre) (e:=mark t) (X:=X) a (J5x t) t.length t [] BIG (G0r _) d (.inl (X1w t)) (by rw[hS,G0n]) (by unfold BIG;omega)
 rw[G0n,G0t]at h
 have e:(pre++(t++(mark t++[10]))).length=pre.length+(t.length+((mark t).length+1)):=by simp only[G0g,G0i,G0z]
 rw[hre,F54,G0b (by omega),G0b (by omega),e]
 show(iter _ _ _).getD _=_
 rw[h]
 rfl
def sAll:List Int->List Str->List Str->List Str
 | k::W,t::ts,D=>sAll W ts (D.set k.toNat t)
 | _,_,D=>D
theorem Z6j:∀ (W:List Int) (ts D:List Str),(sAll W ts D).length=D.length
 | [],ts,D=>by cases ts<;>rfl
 | k::W,[],D=>rfl
 | k::W,t::ts,D=>by rw[sAll,Z6j W ts,G3y]
theorem Z2g:∀ (W:List Int) (ts D R:List Str),(∀k∈W,0<=k/\k<D.length)->sAll W ts (D++R)=sAll W ts D++R
 | [],ts,D,R,_=>by cases ts<;>rfl
 | k::W,[],D,R,_=>rfl
 | k::W,t::ts,D,R,h=>by
   have d:=h k (G1g ..)
   rw[sAll,sAll,List.set_append_left _ _ (by omega)]
   exact Z2g W ts _ R (λx a=>by rw[G3y];exact h x (G1l _ a))
theorem J5d:∀ (W:List Int) (ts D:List Str) (k:Int) (t:Str),W.length=ts.length->sAll (W++[k]) (ts++[t]) D=(sAll W ts D).set k.toNat t
 | [],[],D,k,t,_=>rfl
 | j::W,s::ts,D,k,t,h=>by
   rw[G1d,G1d,sAll,sAll]
   exact J5d W ts _ k t (by simpa using h)
theorem K7q{S X:Str}(a:S.length<=1000000)(T:List Token):∀ (W:List Int) (ts:List Str) (pre:Str) (D:List Str),W.map (λk=>(tp T k).text_)=ts.map mark->(∀t∈ts,Z6d t)->S=pre++((ts.map λt=>t++(mark t++[10])).flatten++X)->dst S T W (pre.length:Int) D=sAll W ts D
 | [],ts,pre,D,_,_,_=>by rw[dst];cases ts<;>rfl
 | k::W,[],pre,D,h,_,_=>by cases h
 | k::W,t::ts,pre,D,h,d,hS=>by
   rw[G2i,G2i]at h
   injection h with f g
   rw[G2i,G2o]at hS
   have e:=V6l (S:=S) (pre:=pre) (t:=t) (X:=(ts.map λt=>t++(mark t++[10])).flatten++X) a (d t (G1g ..)) (by rw[hS];simp)
   rw[dst,sAll,f,e]
   exact K7q (X:=X) a T W ts (pre++(t++(mark t++[10]))) (D.set k.toNat t) g (λx l=>d x (G1l _ l)) (by rw[hS];simp)
theorem Z5z(T0 T1:List Token)(u:Token):tp (T0++u::T1) (T0.length:Int)=u:=by
 rw[tp,G2l,G0y,G0w (G0r _),G8l]
 rfl
section
variable {S:Str}{T:List Token}
theorem Y8g{i m:Nat}{D:List Str}{W:List Int}(hT:T.length<=1000000)(a:i<T.length)(d:W.length<=i)(h:(tp T (i:Int)).kind_=4):
 iter (Q3k T S) (m+1) ((i:Int),D,W)=iter (Q3k T S) m (((i+1:Nat):Int),D,W++[(i:Int)]):=by
 show Q3k _ _ _ _=_
 rw[Q3k]
 try dsimp only
 rw[G0h (by omega),Q0b,Z8g (by omega) (by omega),G0a,G0h h,Q0b,Q3g (by simp only[G0i,G0z];omega),G0a,wr1 (by omega) (by omega)]
 rfl
theorem Y8h{i m:Nat}{D:List Str}{W:List Int}(hs:S.length<=1000000)(hT:T.length<=1000000)(e:i<T.length)(f:W.length<=i)(hD:D.length=T.length)(a:∀k∈W,0<=k/\k<T.length)(h:(tp T (i:Int)).kind_=3){p:Nat}(d:(tp T (i:Int)).at_=p)(g:p<=1000000):
 iter (Q3k T S) (m+1) ((i:Int),D,W)=iter (Q3k T S) m (((i+1:Nat):Int),dst S T W ((p+1:Nat):Int) D,[]):=by
 show Q3k _ _ _ _=_
 rw[Q3k]
 try dsimp only
 rw[G0h (by omega),Q0b,Z8g (by omega) (by omega),G0a,G0b (show ¬ (tp T (i:Int)).kind_=4 by rw[h];decide),Q0a,G0h h,Q0b,d,wr1 (by omega) (by omega)]
 have:=Y1i hs hT (iter (Q3k T S) m) (i:Int) W [] BIG ((p:Int)+1) D (by unfold BIG;omega) hD (by rw[G0t];omega) a
 rw[G0t,wr1 (by omega) (by omega)]at this
 exact this
theorem Y8i{i m:Nat}{D:List Str}{W:List Int}(hT:T.length<=1000000)(e:i<T.length)(a:(tp T (i:Int)).kind_≠4)(d:(tp T (i:Int)).kind_≠3):
 iter (Q3k T S) (m+1) ((i:Int),D,W)=iter (Q3k T S) m (((i+1:Nat):Int),D,W):=by
 show Q3k _ _ _ _=_
 rw[Q3k]
 try dsimp only
 rw[G0h (by omega),Q0b,Z8g (by omega) (by omega),G0a,G0b a,Q0a,G0b d,Q0a,wr1 (by omega) (by omega)]
 rfl
end
def dcA:Atm->List Str
 | .w _ _=>[[]]
 | .v _=>[[],[]]
 | .k _=>[[],[]]
 | .s _=>[[]]
 | .h _ t=>[t]
 | .sp=>[]
 | .nl=>[[]]
def dcs:List Atm->List Str
 | []=>[]
 | a::r=>dcA a++dcs r
theorem V2a(a:Atm)(p:Nat):(tkA a p).length=(dcA a).length:=by cases a<;>rfl
theorem J9a:∀ (l:List Atm) (st:St),(tks l st).length=(dcs l).length
 | [],_=>rfl
 | a::r,st=>by rw[tks,dcs,G0g,G0g,V2a,J9a r]
theorem K9k(D R:List Str)(t:Str):(D++[]::R).set D.length t=D++t::R:=by
 rw[List.set_append_right _ _ (G0r _),G8l]
 rfl
theorem Q0g{α}(T0:List α)(u:α):(T0++[u]).length=T0.length+1:=by rw[G0g];rfl
theorem K9p{T0:List Str}(n:Nat):T0++List.replicate (n+1) []=(T0++[[]])++List.replicate n []:=by
 rw[G3g,G0e];rfl
theorem X3w{S:Str}{T T0 T1:List Token}{u:Token}{D0:List Str}{W:List Int}{n m:Nat}(hT:T.length<=1000000)(h:T=T0++u::T1)(a:u.kind_≠4)(d:u.kind_≠3):
 iter (Q3k T S) (m+1) ((T0.length:Int),D0++List.replicate (n+1) [],W)=iter (Q3k T S) m (((T0++[u]).length:Int),(D0++[[]])++List.replicate n [],W):=by
 have f:T0.length<T.length:=by rw[h];simp only[G0g,G0i];omega
 have e:tp T (T0.length:Int)=u:=by rw[h];exact Z5z T0 T1 u
 rw[Y8i hT f (by rw[e];exact a) (by rw[e];exact d),Q0g,K9p]
theorem Z5o{S:Str}{T:List Token}(hs:S.length<=1000000)(hT:T.length<=1000000):∀ (r:List Atm) (st:St) (g:Bool) (T0:List Token) (D0:List Str) (W:List Int) (ts:List Str) (m:Nat),
 WF g r->endN r->(r=[]->W=[])->T=T0++tks r st->S=st.1++dl r st->D0.length=T0.length->W.length<=T0.length->(∀k∈W,0<=k/\k<T0.length)->
 W.map (λk=>(tp T k).text_)=ts.map mark->(∀t∈ts,Z6d t)->st.2=(ts.map λt=>t++(mark t++[10])).flatten->(tks r st).length<m->
 iter (Q3k T S) m ((T0.length:Int),D0++List.replicate (tks r st).length [],W)=some (sAll W ts D0++dcs r)
 | _,_,_,_,_,_,_,0,_,_,_,_,_,_,_,_,_,_,_,h=>absurd h (G2q _)
 | [],st,g,T0,D0,W,ts,m+1,U,he,hz,d,V,u,Q,y,z,A,C,l=>by
   rw[tks,G0n]at d
   subst d
   have hW:=hz rfl
   subst hW
   show Q3k _ _ _ _=_
   rw[Q3k]
   try dsimp only
   rw[G0b (by omega),Q0a,tks,dcs]
   cases ts<;>rfl
 | a::r,st,g,T0,D0,W,ts,m+1,U,he,hz,d,V,u,Q,y,z,A,C,l=>by
   obtain⟨F,I⟩:=Z1n he
   have H:=U.2.2.2
   have E:S=(em a st).1++dl r (em a st):=by rw[Z2x,G0e];exact V
   have au:st.1.length<=S.length:=by rw[V,G0g];omega
   have K:(k:Int)->k∈W->0<=k/\k<((T0.length+1:Nat):Int):=λk hk=>by have:=y k hk;omega
   have L:∀D:Str,sAll W ts (D0++[D])=sAll W ts D0++[D]:=λD=>Z2g W ts D0 [D] (λk hk=>by have:=y k hk;omega)
   have J:tks (a::r) st=tkA a (pA a st)++tks r (em a st):=rfl
   cases a with
   | sp=>
     have o:(em .sp st).2=(ts.map λt=>t++(mark t++[10])).flatten:=by rw[Z2w];exact C
     exact Z5o hs hT r _ _ T0 D0 W ts (m+1) H F (λh=>by cases I h) d E u Q y z A o l
   | w t q=>
     have o:(em (.w t q) st).2=(ts.map λt=>t++(mark t++[10])).flatten:=by rw[Z2w];exact C
     rw[J]at d l |-
     have f:=Z5o hs hT r _ _ (T0++[⟨1,pA (.w t q) st,t,q⟩]) (D0++[[]]) W ts m H F (λh=>by cases I h) (by rw[G0e];exact d) E (by rw[Q0g,Q0g,u]) (by rw[Q0g];omega) (by rw[Q0g];exact K) z A o (by simp[tkA]at l;omega)
     rw[L,G0e (sAll W ts D0)]at f
     exact(X3w hT d (by show(1:Int)≠4;decide) (by show(1:Int)≠3;decide)).trans f
   | s x=>
     have o:(em (.s x) st).2=(ts.map λt=>t++(mark t++[10])).flatten:=by rw[Z2w];exact C
     rw[J]at d l |-
     have f:=Z5o hs hT r _ _ (T0++[⟨2,pA (.s x) st,x,[]⟩]) (D0++[[]]) W ts m H F (λh=>by cases I h) (by rw[G0e];exact d) E (by rw[Q0g,Q0g,u]) (by rw[Q0g];omega) (by rw[Q0g];exact K) z A o (by simp[tkA]at l;omega)
     rw[L,G0e (sAll W ts D0)]at f
     exact(X3w hT d (by show(2:Int)≠4;decide) (by show(2:Int)≠3;decide)).trans f
   | v n=>
     have o:(em (.v n) st).2=(ts.map λt=>t++(mark t++[10])).flatten:=by rw[Z2w];exact C
     rw[J]at d l |-
     have M:(tks r (em (.v n) st)).length+2<m+1:=by simp[tkA]at l;omega
     match m,M with
     | m+1,M=>
     have O:T=(T0++[⟨2,pA (.v n) st,[36],[]⟩])++⟨1,((pA (.v n) st+1:Nat):Int),n,zr n.length⟩::tks r (em (.v n) st):=by rw[G0e];exact d
     have f:=Z5o hs hT r _ _ ((T0++[⟨2,pA (.v n) st,[36],[]⟩])++[⟨1,((pA (.v n) st+1:Nat):Int),n,zr n.length⟩]) ((D0++[[]])++[[]]) W ts m H F (λh=>by cases I h) (by rw[G0e];exact O) E (by rw[Q0g,Q0g,Q0g,Q0g,u]) (by rw[Q0g,Q0g];omega) (by rw[Q0g,Q0g];exact λk hk=>by have:=y k hk;omega) z A o (by omega)
     rw[Z2g W ts (D0++[[]]) [[]] (λk hk=>by have:=y k hk;rw[Q0g];omega),L,G0e (sAll W ts D0) [[]] [[]],G0e (sAll W ts D0)]at f
     exact(X3w hT d (by show(2:Int)≠4;decide) (by show(2:Int)≠3;decide)).trans ((X3w hT O (by show(1:Int)≠4;decide) (by show(1:Int)≠3;decide)).trans f)
   | k n=>
     have o:(em (.k n) st).2=(ts.map λt=>t++(mark t++[10])).flatten:=by rw[Z2w];exact C
     rw[J]at d l |-
     have M:(tks r (em (.k n) st)).length+2<m+1:=by simp[tkA]at l;omega
     match m,M with
     | m+1,M=>
     have O:T=(T0++[⟨2,pA (.k n) st,[36,35],[]⟩])++⟨1,((pA (.k n) st+2:Nat):Int),n,zr n.length⟩::tks r (em (.k n) st):=by rw[G0e];exact d
     have f:=Z5o hs hT r _ _ ((T0++[⟨2,pA (.k n) st,[36,35],[]⟩])++[⟨1,((pA (.k n) st+2:Nat):Int),n,zr n.length⟩]) ((D0++[[]])++[[]]) W ts m H F (λh=>by cases I h) (by rw[G0e];exact O) E (by rw[Q0g,Q0g,Q0g,Q0g,u]) (by rw[Q0g,Q0g];omega) (by rw[Q0g,Q0g];exact λk hk=>by have:=y k hk;omega) z A o (by omega)
     rw[Z2g W ts (D0++[[]]) [[]] (λk hk=>by have:=y k hk;rw[Q0g];omega),L,G0e (sAll W ts D0) [[]] [[]],G0e (sAll W ts D0)]at f
     exact(X3w hT d (by show(2:Int)≠4;decide) (by show(2:Int)≠3;decide)).trans ((X3w hT O (by show(1:Int)≠4;decide) (by show(1:Int)≠3;decide)).trans f)
   | h raw t=>
     have ah:Z6d t:=U.1
     have o:(em (.h raw t) st).2=((ts++[t]).map λt=>t++(mark t++[10])).flatten:=by rw[Z2w,em2,C];simp
     rw[J]at d l |-
     have Y:T0.length<T.length:=by rw[d];simp[tkA]
     have e:tp T (T0.length:Int)=⟨4,pA (.h raw t) st,mark t,List.replicate (mark t).length (bif raw then 49 else 48)⟩:=by rw[d];exact Z5z T0 _ _
     have f:=Z5o hs hT r _ _ (T0++[⟨4,pA (.h raw t) st,mark t,List.replicate (mark t).length (bif raw then 49 else 48)⟩]) (D0++[[]]) (W++[(T0.length:Int)]) (ts++[t]) m H F (λh=>by cases I h) (by rw[G0e];exact d) E (by rw[Q0g,Q0g,u]) (by rw[Q0g,Q0g];omega) (by
      rw[Q0g]
      intro k hk
      rcases G2z.1 hk with h|h
      ·exact K k h
      ·rw[G1p.1 h];omega) (by rw[G7r,G7r,z,List.map_singleton,List.map_singleton,e]) (by
      intro x K
      rcases G2z.1 K with h|h
      ·exact A x h
      rw[G1p.1 h];exact ah) o (by simp[tkA]at l;omega)
     have ak:W.length=ts.length:=by have:=G4e List.length z;simpa using this
     rw[J5d W ts _ _ _ ak,L,G2l,<-u,<-Z6j W ts D0,K9k,Z6j,u,G0e (sAll W ts D0)]at f
     refine G9h ?_ f
     rw[Y8g hT Y Q (by rw[e]),Q0g]
     have e9:(tkA (.h raw t) (pA (.h raw t) st)++tks r (em (.h raw t) st)).length=(tks r (em (.h raw t) st)).length+1:=rfl
     rw[e9,K9p]
   | nl=>
     have e0:(em .nl st).1=endl st.1++(10::st.2):=rfl
     have o:(em .nl st).2=(([]:List Str).map λt=>t++(mark t++[10])).flatten:=rfl
     have ac:S=(endl st.1++[10])++(st.2++dl r (em .nl st)):=by rw[E,e0];simp
     rw[C]at ac
     have hp:(endl st.1).length<=1000000:=by
      have:S.length=_:=G4e List.length ac
      simp only[G0g,G0i]at this
      omega
     rw[J]at d l |-
     have Y:T0.length<T.length:=by rw[d];simp[tkA]
     have e:tp T (T0.length:Int)=⟨3,(pA .nl st:Nat),[10],[]⟩:=by rw[d];exact Z5z T0 _ _
     have ao:T.length=T0.length+((tks r (em .nl st)).length+1):=by rw[d,G0g];rfl
     have e9:(tkA .nl (pA .nl st)++tks r (em .nl st)).length=(tks r (em .nl st)).length+1:=rfl
     have f:=Z5o hs hT r (em .nl st) _ (T0++[⟨3,(pA .nl st:Nat),[10],[]⟩]) (sAll W ts D0++[[]]) [] [] m H F (λ_=>rfl) (by rw[G0e];exact d) E (by rw[Q0g,Q0g,Z6j,u]) (by simp) (λk hk=>by cases hk) rfl (λk hk=>by cases hk) o (by simp[tkA]at l;omega)
     rw[e9,Y8h hs hT Y Q (by rw[G0g,G1z,ao,u]) (λk hk=>by have:=y k hk;omega) (by rw[e]) (p:=pA .nl st) (by rw[e]) hp]
     have ed:=K7q (X:=dl r (em .nl st)) hs T W ts (endl st.1++[10]) (D0++List.replicate ((tks r (em .nl st)).length+1) []) z A ac
     rw[Q0g]at ed f
     have aq:pA .nl st=(endl st.1).length:=rfl
     rw[aq,ed,Z2g W ts D0 _ (λk hk=>by have:=y k hk;omega),K9p,f]
     have ar:sAll [] [] (sAll W ts D0++[[]])=sAll W ts D0++[[]]:=rfl
     rw[ar,G0e]
     rfl
theorem K5b{l:List Cmd}(h:rUp l 4=true)(hs:(txt l).length<=1000000)(hT:(tkn l).length<=1000000):F46 (txt l) (tkn l)=some (dcs (aIts l)):=by
 have a:=J2n l [] h trivial
 rw[G0n]at a
 have:=Z5o (S:=txt l) (T:=tkn l) hs hT (aIts l) ([],[]) false [] [] [] [] BIG a (Z6z l) (λ_=>rfl) rfl rfl rfl (G0r _) (λk hk=>by cases hk) rfl (λk hk=>by cases hk) rfl (by
  show(tkn l).length<_
  unfold BIG;omega)
 rw[F46,mkO,if_pos ⟨by omega,by omega⟩,G0a]
 exact this
def Vw(T:List Token)(D:List Str)(r:List Atm)(i:Int):Prop:=∃T0 D0 st,T=T0++tks r st/\D=D0++dcs r/\i=(T0.length:Int)/\D0.length=T0.length
theorem Vw.start(l:List Cmd):Vw (tkn l) (dcs (aIts l)) (aIts l) 0:=⟨[],[],([],[]),rfl,rfl,rfl,rfl⟩
section
variable {T:List Token}{D:List Str}{i:Int}{r:List Atm}
theorem Vw.pos(h:Vw T D r i):0<=i/\i<=T.length:=by
 obtain⟨T0,D0,st,a,d,e,f⟩:=h
 rw[a,G0g]
 omega
theorem Vw.end(h:Vw T D [] i):i=T.length:=by
 obtain⟨T0,D0,st,a,e,d,f⟩:=h
 rw[a,d,tks,G0n]
theorem Vw.sp(h:Vw T D (.sp::r) i):Vw T D r i:=by
 obtain⟨T0,D0,st,a,d,e,f⟩:=h
 exact⟨T0,D0,em .sp st,a,d,e,f⟩
theorem Vw.one{a:Atm}{u:Token}{d:Str}(h:Vw T D (a::r) i)(l:∀p,∃q:Nat,tkA a p=[⟨u.kind_,q,u.text_,u.quoted_⟩])(hd:dcA a=[d]):(∃q:Nat,tp T i=⟨u.kind_,q,u.text_,u.quoted_⟩)/\lidx D i=some d/\i<T.length/\Vw T D r (i+1):=by
 obtain⟨T0,D0,st,e,f,m,g⟩:=h
 obtain⟨q,hq⟩:=l (pA a st)
 rw[tks,hq]at e
 rw[dcs,hd]at f
 subst m
 refine⟨⟨q,by rw[e];exact Z5z T0 _ _⟩,?_,by rw[e,G0g,G0g,G0i];omega,T0++[⟨u.kind_,q,u.text_,u.quoted_⟩],D0++[d],em a st,by rw[e,G0e],by rw[f,G0e],by rw[Q0g];omega,by rw[Q0g,Q0g,g]⟩
 rw[f,<-g,Z2n]
 simp
theorem Vw.w{t q:Str}(h:Vw T D (.w t q::r) i):(∃p:Nat,tp T i=⟨1,p,t,q⟩)/\i<T.length/\Vw T D r (i+1):=by
 obtain⟨a,-,d,e⟩:=h.one (u:=⟨1,0,t,q⟩) (λp=>⟨p,rfl⟩) rfl
 exact⟨a,d,e⟩
theorem Vw.s{x:Str}(h:Vw T D (.s x::r) i):(∃p:Nat,tp T i=⟨2,p,x,[]⟩)/\i<T.length/\Vw T D r (i+1):=by
 obtain⟨a,-,d,e⟩:=h.one (u:=⟨2,0,x,[]⟩) (λp=>⟨p,rfl⟩) rfl
 exact⟨a,d,e⟩
theorem Vw.nl(h:Vw T D (.nl::r) i):(∃p:Nat,tp T i=⟨3,p,[10],[]⟩)/\i<T.length/\Vw T D r (i+1):=by
 obtain⟨a,-,d,e⟩:=h.one (u:=⟨3,0,[10],[]⟩) (λp=>⟨p,rfl⟩) rfl
 exact⟨a,d,e⟩
theorem Vw.h{raw:Bool}{t:Str}(h:Vw T D (.h raw t::r) i):(∃p:Nat,tp T i=⟨4,p,mark t,List.replicate (mark t).length (bif raw then 49 else 48)⟩)/\lidx D i=some t/\i<T.length/\Vw T D r (i+1):=
 h.one (u:=⟨4,0,mark t,List.replicate (mark t).length (bif raw then 49 else 48)⟩) (λp=>⟨p,rfl⟩) rfl
def nt:List Atm->Token
 | []=>eT
 | .sp::r=>nt r
 | .w t q::_=>⟨1,0,t,q⟩
 | .v _::_=>⟨2,0,[36],[]⟩
 | .k _::_=>⟨2,0,[36,35],[]⟩
 | .s x::_=>⟨2,0,x,[]⟩
 | .h raw t::_=>⟨4,0,mark t,List.replicate (mark t).length (bif raw then 49 else 48)⟩
 | .nl::_=>⟨3,0,[10],[]⟩
def un(t:Token):Token:=⟨t.kind_,0,t.text_,t.quoted_⟩
theorem Y1u:∀ (x:List Atm),Vw T D x i->un (tp T i)=Go.Abs.U48.nt x
 | [],h=>by
   rw[X6i (by rw[h.end];exact G4w _)]
   rfl
 | .sp::r,h=>Y1u r h.sp
 | .w t q::r,h=>by obtain⟨⟨p,e⟩,-⟩:=h.w;rw[e];rfl
 | .s x::r,h=>by obtain⟨⟨p,e⟩,-⟩:=h.s;rw[e];rfl
 | .nl::r,h=>by obtain⟨⟨p,e⟩,-⟩:=h.nl;rw[e];rfl
 | .h raw t::r,h=>by obtain⟨⟨p,e⟩,-⟩:=h.h;rw[e];rfl
 | .v n::r,h=>by
   obtain⟨T0,D0,st,a,f,d,g⟩:=h
   have:tp T i=⟨2,((pA (.v n) st:Nat):Int),[36],[]⟩:=by rw[a,d];exact Z5z T0 _ _
   rw[this]
   rfl
 | .k n::r,h=>by
   obtain⟨T0,D0,st,a,f,d,g⟩:=h
   have:tp T i=⟨2,((pA (.k n) st:Nat):Int),[36,35],[]⟩:=by rw[a,d];exact Z5z T0 _ _
   rw[this]
   rfl
theorem Vw.nt(h:Vw T D r i):un (tp T i)=Go.Abs.U48.nt r:=Y1u r h
theorem Vw.isT(h:Vw T D r i)(s:Str):isT (tp T i) s=isT (Go.Abs.U48.nt r) s:=by rw[<-h.nt];rfl
theorem Vw.bW(h:Vw T D r i):bW (tp T i)=bW (Go.Abs.U48.nt r):=by rw[<-h.nt];rfl
theorem Vw.bR(h:Vw T D r i):bR (tp T i)=bR (Go.Abs.U48.nt r):=by rw[<-h.nt];rfl
theorem Vw.bC(h:Vw T D r i):bC (tp T i)=bC (Go.Abs.U48.nt r):=by rw[<-h.nt];rfl
theorem Vw.kwT(h:Vw T D r i):kwT (tp T i)=kwT (Go.Abs.U48.nt r):=by rw[<-h.nt];rfl
theorem Vw.plT(h:Vw T D r i):plT (tp T i)=plT (Go.Abs.U48.nt r):=by rw[<-h.nt];rfl
theorem Vw.gapT(h:Vw T D r i):gapT (tp T i)=gapT (Go.Abs.U48.nt r):=by rw[<-h.nt];rfl
theorem Vw.keyT(h:Vw T D r i)(s:Str):keyT (tp T i) s=keyT (Go.Abs.U48.nt r) s:=by rw[<-h.nt];rfl
theorem K6q:∀ (r:List Atm) (st:St) (u:Token) (R:List Token),tks r st=u::R->(st.1.length:Int)<=u.at_
 | [],_,_,_,h=>by cases h
 | .sp::r,st,u,R,h=>by
   have:=K6q r (em .sp st) u R h
   have e:(em .sp st).1.length=st.1.length+1:=by rw[Z2x,G0g];rfl
   omega
 | .w t q::r,st,u,R,h=>by cases h;exact G4w _
 | .v n::r,st,u,R,h=>by cases h;exact G4w _
 | .k n::r,st,u,R,h=>by cases h;exact G4w _
 | .s x::r,st,u,R,h=>by cases h;exact G4w _
 | .h raw t::r,st,u,R,h=>by cases h;exact G4w _
 | .nl::r,st,u,R,h=>by
   cases h
   show(st.1.length:Int)<=((endl st.1).length:Int)
   rw[endl]
   cases decide (st.1.getLast?=some 92)with
   | true=>rw[Q0b,G0g];omega
   | false=>exact G4w _
theorem Vw.v{n:Str}(h:Vw T D (.v n::r) i):∃p:Nat,tp T i=⟨2,p,[36],[]⟩/\tp T (i+1)=⟨1,((p+1:Nat):Int),n,zr n.length⟩/\i+1<T.length/\Vw T D r (i+2)/\(∀x a,r=.s x::a->(tp T (i+2)).at_=((p+1+n.length:Nat):Int))/\(∀a,r=.sp::a->i+2<T.length->((p+1+n.length:Nat):Int)<(tp T (i+2)).at_):=by
 obtain⟨T0,D0,st,g,l,m,o⟩:=h
 subst m
 have f:T=(T0++[Token.mk 2 (pA (.v n) st:Nat) [36] []])++(Token.mk 1 ((pA (.v n) st+1:Nat):Int) n (zr n.length))::tks r (em (.v n) st):=by rw[G0e];exact g
 have d:T=((T0++[Token.mk 2 (pA (.v n) st:Nat) [36] []])++[(Token.mk 1 ((pA (.v n) st+1:Nat):Int) n (zr n.length))])++tks r (em (.v n) st):=by rw[G0e];exact f
 have q:(em (.v n) st).1.length=pA (.v n) st+1+n.length:=by
  rw[Z2x,G0g]
  show st.1.length+(n.length+1)=st.1.length+1+n.length
  omega
 have e:(T0.length:Int)+2=(((T0++[Token.mk 2 (pA (.v n) st:Nat) [36] []])++[(Token.mk 1 ((pA (.v n) st+1:Nat):Int) n (zr n.length))]).length:Int):=by rw[Q0g,Q0g];omega
 refine⟨pA (.v n) st,by rw[g];exact Z5z T0 _ _,?_,?_,⟨_,(D0++[[]])++[[]],em (.v n) st,d,by rw[l,G0e,G0e];rfl,e,by rw[Q0g,Q0g,Q0g,Q0g,o]⟩,?_,?_⟩
 ·have:(T0.length:Int)+1=((T0++[Token.mk 2 (pA (.v n) st:Nat) [36] []]).length:Int):=by rw[Q0g];omega
  rw[this,f]
  exact Z5z _ _ _
 ·rw[f,G0g,Q0g,G0i];omega
 ·rintro x a rfl
  rw[e]
  have:tp T (((T0++[Token.mk 2 (pA (.v n) st:Nat) [36] []])++[(Token.mk 1 ((pA (.v n) st+1:Nat):Int) n (zr n.length))]).length:Int)=⟨2,(pA (.s x) (em (.v n) st):Nat),x,[]⟩:=by
   conv=>lhs;rw[d]
   exact Z5z _ _ _
  rw[this,<-q]
  rfl
 rintro a rfl t
 cases hk:tks (.sp::a) (em (.v n) st)with
 | nil=>
   rw[hk,G0n]at d
   rw[e,<-d]at t
   omega
 | cons u R=>
   have:=K6q a (em .sp (em (.v n) st)) u R hk
   have z:(em .sp (em (.v n) st)).1.length=(em (.v n) st).1.length+1:=by rw[Z2x,G0g];rfl
   rw[hk]at d
   have y:tp T ((T0.length:Int)+2)=u:=by rw[e,d];exact Z5z _ _ _
   rw[y]
   omega
theorem Vw.k{n:Str}(h:Vw T D (.k n::r) i):∃p:Nat,tp T i=⟨2,p,[36,35],[]⟩/\tp T (i+1)=⟨1,((p+2:Nat):Int),n,zr n.length⟩/\i+1<T.length/\Vw T D r (i+2):=by
 obtain⟨T0,D0,st,d,e,f,g⟩:=h
 subst f
 have a:T=(T0++[Token.mk 2 (pA (.k n) st:Nat) [36,35] []])++(Token.mk 1 ((pA (.k n) st+2:Nat):Int) n (zr n.length))::tks r (em (.k n) st):=by rw[G0e];exact d
 have l:T=((T0++[Token.mk 2 (pA (.k n) st:Nat) [36,35] []])++[(Token.mk 1 ((pA (.k n) st+2:Nat):Int) n (zr n.length))])++tks r (em (.k n) st):=by rw[G0e];exact a
 have m:(T0.length:Int)+2=(((T0++[Token.mk 2 (pA (.k n) st:Nat) [36,35] []])++[(Token.mk 1 ((pA (.k n) st+2:Nat):Int) n (zr n.length))]).length:Int):=by rw[Q0g,Q0g];omega
 refine⟨pA (.k n) st,by rw[d];exact Z5z T0 _ _,?_,?_,⟨_,(D0++[[]])++[[]],em (.k n) st,l,by rw[e,G0e,G0e];rfl,m,by rw[Q0g,Q0g,Q0g,Q0g,g]⟩⟩
 ·have:(T0.length:Int)+1=((T0++[Token.mk 2 (pA (.k n) st:Nat) [36,35] []]).length:Int):=by rw[Q0g];omega
  rw[this,a]
  exact Z5z _ _ _
 rw[a,G0g,Q0g,G0i];omega
end
theorem Q3a(w:Word)(r:List Word)(s:List Atm):aSep (w::r) s true=aW w++aSep r s false:=by
 rw[aSep,Q0b,G0t]
theorem Q0y(w:Word)(r:List Word)(s:List Atm):aSep (w::r) s false=s++(aW w++aSep r s false):=by
 rw[aSep,Q0a]
theorem Z1r:∀ (w:Word),rW w=true->∃t,bW t=true/\∀x,nt (aW w++x)=t
 | ⟨k,t,q,ws,cs⟩,h=>by
   rcases Q6x h with⟨rfl,-⟩|⟨rfl|rfl,-⟩|⟨rfl,-⟩|⟨rfl,-⟩|⟨rfl,-⟩|⟨rfl,-,-,-,h2,-,h3⟩
   ·exact⟨⟨1,0,t,q⟩,rfl,λx=>by rw[aW];rfl⟩
   ·exact⟨⟨2,0,[36],[]⟩,rfl,λx=>by rw[aW];rfl⟩
   ·exact⟨⟨2,0,[36,35],[]⟩,rfl,λx=>by rw[aW];rfl⟩
   ·exact⟨⟨2,0,[36],[]⟩,rfl,λx=>by rw[aW];rfl⟩
   ·exact⟨⟨2,0,[40],[]⟩,rfl,λx=>by rw[aW];rfl⟩
   ·exact⟨⟨2,0,[96],[]⟩,rfl,λx=>by rw[aW];rfl⟩
   cases ws with
   | nil=>simp at h2
   | cons w r=>
     rw[rWs,G0d]at h3
     obtain⟨u,a,d⟩:=Z1r w h3.1
     refine⟨u,a,λx=>?_⟩
     have e:aW ⟨4,t,q,w::r,cs⟩=aW w++aSep r [.s [94]] false:=by
      rw[aW]
      exact Q3a _ _ _
     rw[e,G0e]
     exact d _
theorem Z8y{t:Token}{s:Str}(h:bW t=true)(hs:s≠[36]/\s≠[36,35]/\s≠[40]/\s≠[96]):isT t s=false:=by
 cases a:isT t s with
 | false=>rfl
 | true=>
   rw[isT,G0d,G0l,G0l]at a
   rw[bW,isT,isT,isT,isT,a.1,a.2,G0b hs.1,G0b hs.2.1,G0b hs.2.2.1,G0b hs.2.2.2]at h
   cases h
theorem Y8l{t:Token}(h:bW t=true):t.kind_≠3:=by
 intro e
 rw[bW,isT,isT,isT,isT,e]at h
 cases h
structure OkV(T:List Token)(D:List Str):Prop extends OkT T where
 at_:∀i,(tp T i).at_<=1000000
 doc:∀k d,lidx D k=some d->d.length<=1000000
def hd40:List Atm->Bool
 | .s x::_=>decide (x=[40])
 | _=>false
def foP(r:List Atm):Prop:=hd40 r=false
def foW(r:List Atm):Prop:=hd40 r=false/\isT (nt r) [94]=false
def Rd(f:PWd)(w:Word):Prop:=∀ (S:Str) (T:List Token) (D:List Str) (r:List Atm) (i:Int),OkV T D->Vw T D (aW w++r) i->foW r->∃w' j,f S T D i=some (.inr (w',j))/\zW w'=zW w/\Vw T D r j
theorem Y0w{w:Word}{x:List Atm}(h:rW w=true):foW (.sp::(aW w++x)):=by
 obtain⟨t,a,d⟩:=Z1r w h
 refine⟨rfl,?_⟩
 show isT (nt (aW w++x)) [94]=false
 rw[d]
 exact Z8y a (by decide)
theorem Q8z{ws:List Word}{x:List Atm}(h:rWs ws=true)(a:foW x):foW (aSep ws [.sp] false++x):=by
 cases ws with
 | nil=>rw[aSep];exact a
 | cons w r=>
   rw[rWs,G0d]at h
   rw[Q0y,G0e,G0e]
   exact Y0w h.1
theorem J2m{S:Str}{T:List Token}{D:List Str}{f:PWd}(l:OkV T D):∀ (ws:List Word) (b:Bool) (r:List Atm) (i:Int) (m:Nat) (d:List Word),rWs ws=true->(∀w∈ws,Rd f w)->Vw T D (aSep ws [.sp] b++r) i->foW r->bW (nt r)=false->(nt r).kind_≠3->ws.length<m->d.length+ws.length<=1000000->
 ∃l' j,iter (Z1u S T D f) m (i,d)=some (.inr (d++l',j))/\zWs l'=zWs ws/\Vw T D r j
 | _,_,_,_,0,_,_,_,_,_,_,_,h,_=>absurd h (G2q _)
 | [],b,r,i,m+1,d,e,o,a,p,hb,hk,y,q=>by
   rw[aSep]at a
   have a:Vw T D r i:=a
   have g:=a.pos
   have hT:=l.len
   refine⟨[],i,?_,rfl,a⟩
   show Z1u _ _ _ _ _ _=_
   rw[Z1u]
   try dsimp only
   have u:(tp T i).kind_≠3:=by
    have:=a.nt
    rw[<-this]at hk
    exact hk
   rw[Q4k g.1 (by omega) u,G0a,Q1r g.1 (by omega),G0a,Q2y,G0a,a.bW,hb,G0n]
   rfl
 | w::ws,b,r,i,m+1,d,e,o,a,p,hb,hk,y,q=>by
   rw[rWs,G0d]at e
   have a:Vw T D (aW w++(aSep ws [.sp] false++r)) i:=by
    cases b with
    | true=>rw[Q3a,G0e]at a;exact a
    | false=>rw[Q0y,G0e,G0e]at a;exact a.sp
   have g:=a.pos
   have hT:=l.len
   obtain⟨t,z,A⟩:=Z1r w e.1
   have C:=a.nt
   rw[A]at C
   have u:(tp T i).kind_≠3:=by
    have:=Y8l z
    rw[<-C]at this
    exact this
   have F:bW (tp T i)=true:=by rw[a.bW,A];exact z
   obtain⟨w',j,H,I,E⟩:=o w (G1g ..) S T D _ i l a (Q8z e.2 p)
   have Q:=E.pos
   obtain⟨l',J,K,L,M⟩:=J2m (S:=S) l ws false r j m (d++[w']) e.2 (λx O=>o x (G1l _ O)) E p hb hk (by simpa using y) (by rw[Q0g];simp at q;omega)
   refine⟨w'::l',J,?_,by rw[zWs,zWs,I,L],M⟩
   show Z1u _ _ _ _ _ _=_
   rw[Z1u]
   try dsimp only
   rw[Q4k g.1 (by omega) u,G0a,Q1r g.1 (by omega),G0a,Q2y,G0a,F,G0m,Q0a,H]
   simp only[Q0i]
   rw[Q3g (by simp only[G0i,G0z];simp at q;omega),G0a,K,G0e]
   rfl
theorem K6k(n:Nat):Q2k (zr n)=false:=by
 rw[zr,Q2k]
 cases n with
 | zero=>rfl
 | succ n=>simp[G3g]
theorem Q4a:∀ (a b:List Atm),dcs (a++b)=dcs a++dcs b
 | [],_=>rfl
 | x::a,b=>by rw[G1d,dcs,dcs,Q4a a b,G0e]
theorem J3g:∀ (a x:List Atm),dcs a=[]->nt (a++x)=nt x
 | [],_,_=>rfl
 | .sp::a,x,h=>J3g a x h
 | .w _ _::a,x,h=>by cases h
 | .v _::a,x,h=>by cases h
 | .k _::a,x,h=>by cases h
 | .s _::a,x,h=>by cases h
 | .h _ _::a,x,h=>by cases h
 | .nl::a,x,h=>by cases h
theorem Y1o{w:Word}(h:rW w=true):1<=(dcs (aW w)).length:=by
 obtain⟨t,d,f⟩:=Z1r w h
 cases e:dcs (aW w)with
 | nil=>
   have:=J3g (aW w) [] e
   rw[f]at this
   rw[this]at d
   cases d
 | cons a r=>simp
theorem Q8f{s:List Atm}:∀ (ws:List Word) (b:Bool),rWs ws=true->ws.length<=(dcs (aSep ws s b)).length
 | [],_,_=>G1t _
 | w::r,b,h=>by
   rw[rWs,G0d]at h
   have a:=Y1o h.1
   have d:=Q8f (s:=s) r false h.2
   rw[aSep,Q4a,Q4a,G0g,G0g,G0i]
   omega
theorem Vw.len{T:List Token}{D:List Str}{i:Int}{a r:List Atm}(h:Vw T D (a++r) i):(dcs a).length<=T.length:=by
 obtain⟨T0,D0,st,d,e,f,g⟩:=h
 rw[d,G0g,J9a,Q4a,G0g]
 omega
section
variable {S:Str}{T:List Token}{D:List Str}{i:Int}
theorem X3k{n:Str}{p:Int}(a:OkV T D)(d:0<=i)(hb:i<=1000001)(h:tp T i=⟨1,p,n,zr n.length⟩)(e:nameB n=true):F256 S T D i=some (.inr (n,i+1)):=by
 have:=Y3p (S:=S) (D:=D) a.toOkT d (by omega) (by rw[h,plT];simp only[G4x,K6k,e];rfl)
 rw[h]at this
 exact this
theorem Y3n{n:Str}{r:List Atm}(f:PWd)(g:OkV T D)(y:Vw T D (.v n::r) i)(A:nameB n=true)(C:foP r):F286 f S T D (i+1)=some (.inr (⟨2,n,[],[],[]⟩,i+2)):=by
 obtain⟨p,J,l,K,E,L,F⟩:=y.v
 have M:=y.pos
 have hT:=g.len
 have o:=g.at_ (i+1)
 rw[l]at o
 have u:=(g.tl (i+1)).1
 rw[l]at u
 have o:((p+1:Nat):Int)<=1000000:=o
 have u:n.length<=1000000:=u
 rw[F286,Q1r (by omega) (by omega),G0a,X3k g (by omega) (by omega) l A]
 simp only[Q0i]
 rw[show i+1+1=i+2 by omega,Z4x _ (by omega) (by omega),G0a]
 cases d:isT (tp T (i+2)) [40]with
 | false=>rfl
 | true=>
   rw[G0m,Q0a,Q1r (by omega) (by omega),G0a,l]
   have H:(tp T (i+2)).at_≠IntKind.wrap .i64 (((p+1:Nat):Int)+(n.length:Int)):=by
    rw[Q0j (by omega) (by omega)]
    have I:=V6j d (by omega)
    rw[E.isT]at d
    cases r with
    | nil=>cases d
    | cons a r=>
      cases a with
      | sp=>
        have:=F r rfl I
        omega
      | s x=>
        exfalso
        have e:decide (x=[40])=false:=C
        have z:(decide ((2:Int)=2)&&decide (x=[40]))=true:=d
        rw[e]at z
        cases z
      | w t q=>cases d
      | v m=>exact absurd d (by rw[nt,isT];decide)
      | k m=>exact absurd d (by rw[nt,isT];decide)
      | h raw t=>cases d
      | nl=>cases d
   rw[G0b H]
   rfl
theorem K8p{ws:List Word}{r:List Atm}{f:PWd}(a:OkV T D)(d:Vw T D (aSep ws [.sp] true++.s [41]::r) i)(e:rWs ws=true)(g:∀w∈ws,Rd f w):∃l' j,F257 f S T D i=some (.inr (l',j))/\zWs l'=zWs ws/\Vw T D (.s [41]::r) j:=by
 have p:=d.len
 have q:=Q8f (s:=[.sp]) ws true e
 have hT:=a.len
 obtain⟨l',j,l,m,o⟩:=J2m (S:=S) a ws true (.s [41]::r) i BIG [] e g d ⟨rfl,rfl⟩ rfl (show(2:Int)≠3 by decide) (by unfold BIG;omega) (by simp;omega)
 exact⟨l',j,l,m,o⟩
theorem Y3m{n:Str}{ws:List Word}{r:List Atm}{f:PWd}(a:OkV T D)(m:Vw T D (.v n::.s [40]::(aSep ws [.sp] true++.s [41]::r)) i)(t:nameB n=true)(u:rWs ws=true)(x:ws≠[])(y:∀w∈ws,Rd f w):∃l' j,F286 f S T D (i+1)=some (.inr (⟨7,n,[],l',[]⟩,j))/\zWs l'=zWs ws/\Vw T D r j:=by
 obtain⟨p,J,d,K,o,z,L⟩:=m.v
 have M:=m.pos
 have hT:=a.len
 have e:=a.at_ (i+1)
 rw[d]at e
 have g:=(a.tl (i+1)).1
 rw[d]at g
 have e:((p+1:Nat):Int)<=1000000:=e
 have g:n.length<=1000000:=g
 obtain⟨-,O,A⟩:=o.s
 obtain⟨l',j,C,q,l⟩:=K8p (S:=S) a A u y
 have Q:=l.pos
 obtain⟨-,U,E⟩:=l.s
 refine⟨l',j+1,?_,q,E⟩
 have hat:(tp T (i+2)).at_=IntKind.wrap .i64 (((p+1:Nat):Int)+(n.length:Int)):=by
  rw[Q0j (by omega) (by omega),z _ _ rfl]
  omega
 have F:¬ (l'.length:Int)=0:=by
  rw[X6c q]
  have:=G3z.2 x
  omega
 have H:isT (tp T j) [41]=true:=by rw[l.isT];rfl
 have I:isT (tp T (i+2)) [40]=true:=by rw[o.isT];rfl
 rw[F286,Q1r (by omega) (by omega),G0a,X3k a (by omega) (by omega) d t]
 simp only[Q0i]
 rw[show i+1+1=i+2 by omega,Z4x _ (by omega) (by omega),G0a,I,G0m,Q0a,Q1r (by omega) (by omega),G0a,d,G0h hat,G0m,Q0a,wr1 (by omega) (by omega),C]
 simp only[Q0i]
 rw[G0b F,Q0a,Z9r,Z1f (by omega) (by omega) H]
 rfl
end
def EndL(c:Bool)(r:List Atm):Prop:=gapT (nt r)=false/\(bC (nt r)=false\/c=true/\∃q,r=ax [99,97,115,101]::q/\isT (nt q) [61]=false)
def RdL(f:PCm)(c:Bool)(cs:List Cmd):Prop:=∀ (S:Str) (T:List Token) (D:List Str) (b:Bool) (r:List Atm) (i:Int),OkV T D->Vw T D ((bif b then[.nl]else[])++(aIts cs++r)) i->EndL c r->∃l' j,F47 f c S T D i=some (.inr (l',j))/\zCs l'=zCs cs/\Vw T D r j
section
variable {S:Str}{T:List Token}{D:List Str}{i:Int}
theorem K2e{g:PCm}{cs:List Cmd}{r:List Atm}(e:OkV T D)(a:Vw T D (.s [123]::.nl::(aIts cs++.s [125]::r)) i)(f:RdL g false cs):∃l' j,F253 g S T D i=some (.inr (l',j))/\zCs l'=zCs cs/\Vw T D r j:=by
 have l:=a.pos
 have hT:=e.len
 obtain⟨-,u,m⟩:=a.s
 obtain⟨l',j,o,p,d⟩:=f S T D true (.s [125]::r) (i+1) e m ⟨rfl,.inl rfl⟩
 have q:=d.pos
 obtain⟨-,x,t⟩:=d.s
 refine⟨l',j+1,?_,p,t⟩
 rw[F253,Z1f l.1 (by omega) (by rw[a.isT];rfl)]
 simp only[Q0i]
 rw[o]
 simp only
 rw[Z1f q.1 (by omega) (by rw[d.isT];rfl)]
theorem X3i{f:PWd}{g:PCm}{r:List Atm}(o:OkV T D):∀ (w:Word),rW w=true->w.kind_≠4->(∀x∈w.words_,Rd f x)->RdL g false w.cmd_->Vw T D (aW w++r) i->foP r->∃w' j,F274 g f S T D i=some (.inr (w',j))/\zW w'=zW w/\Vw T D r j
 | ⟨k,t,q,ws,cs⟩,C,I,E,J,a,K=>by
   have F:=a.pos
   have hT:=o.len
   obtain⟨u,L,M⟩:=Z1r _ C
   have hb:bW (tp T i)=true:=by rw[a.bW,M];exact L
   have O:F274 g f S T D i=Z4m (tp T i) i f S T D g ():=by
    rw[F274,Q1r F.1 (by omega),G0a,Q2y,G0a,hb,G0m,Q0a]
   rw[O,Z4m,wr1 F.1 (by omega)]
   rcases Q6x C with⟨rfl,y,rfl,rfl⟩|⟨rfl|rfl,y,rfl,rfl,rfl⟩|⟨rfl,y,rfl,Q,rfl,A⟩|⟨rfl,rfl,rfl,rfl,A⟩|⟨rfl,rfl,rfl,rfl,A⟩|⟨rfl,-⟩
   ·have a:Vw T D (.w t q::r) i:=by rw[aW]at a;exact a
    obtain⟨⟨p,e⟩,H,d⟩:=a.w
    rw[e]
    exact⟨_,_,rfl,rfl,d⟩
   ·have a:Vw T D (.v t::r) i:=by rw[aW]at a;exact a
    obtain⟨p,e,-,-,d,-⟩:=a.v
    rw[e]
    refine⟨⟨2,t,[],[],[]⟩,i+2,?_,rfl,d⟩
    show Q0i (F286 f S T D (i+1)) _=_
    rw[Y3n f o a y K]
    rfl
   ·have a:Vw T D (.k t::r) i:=by rw[aW]at a;exact a
    obtain⟨p,e,l,-,d⟩:=a.k
    rw[e]
    refine⟨⟨3,t,[],[],[]⟩,i+2,?_,rfl,d⟩
    show Q0i (F256 S T D (i+1)) _=_
    rw[X3k o (by omega) (by omega) l y,show i+1+1=i+2 by omega]
    rfl
   ·have a:Vw T D (.v t::.s [40]::(aSep ws [.sp] true++.s [41]::r)) i:=by
     rw[aW]at a
     have a:Vw T D (.v t::.s [40]::((aSep ws [.sp] true++[.s [41]])++r)) i:=a
     rw[G0e]at a
     exact a
    obtain⟨p,e,-⟩:=a.v
    obtain⟨l',j,z,l,m⟩:=Y3m (S:=S) o a y A Q E
    rw[e]
    refine⟨⟨7,t,[],l',[]⟩,j,?_,by rw[zW,zW,l],m⟩
    show Q0i (F286 f S T D (i+1)) _=_
    rw[z]
    rfl
   ·have a:Vw T D (.s [40]::(aSep ws [.sp] true++.s [41]::r)) i:=by
     rw[aW]at a
     have a:Vw T D (.s [40]::((aSep ws [.sp] true++[.s [41]])++r)) i:=a
     rw[G0e]at a
     exact a
    obtain⟨⟨p,e⟩,H,d⟩:=a.s
    obtain⟨l',j,z,l,m⟩:=K8p (S:=S) o d A E
    have U:=m.pos
    obtain⟨-,W,V⟩:=m.s
    rw[e]
    refine⟨⟨5,[],[],l',[]⟩,j+1,?_,by rw[zW,zW,l],V⟩
    show Q0i (F257 f S T D (i+1)) _=_
    rw[z]
    simp only[Q0i]
    rw[Z1f U.1 (by omega) (by rw[m.isT];rfl)]
   ·have a:Vw T D (.s [96]::.s [123]::.nl::(aIts cs++.s [125]::r)) i:=by
     rw[aW]at a
     have a:Vw T D (.s [96]::.s [123]::.nl::((aIts cs++[.s [125]])++r)) i:=a
     rw[G0e]at a
     exact a
    obtain⟨⟨p,e⟩,H,d⟩:=a.s
    obtain⟨l',j,z,l,m⟩:=K2e (S:=S) o d J
    rw[e]
    refine⟨⟨6,[],[],[],l'⟩,j,?_,by rw[zW,zW,l],m⟩
    show Q0i (F253 g S T D (i+1)) _=_
    rw[z]
    rfl
   exact absurd rfl I
def Pcs(f:PWd)(g:PCm)(w:Word):Prop:=(∀x∈w.words_,Rd f x)/\RdL g false w.cmd_
theorem J8t{ws:List Word}{r:List Atm}(h:foW r):foP (aSep ws [.s [94]] false++r):=by
 cases ws with
 | nil=>rw[aSep];exact h.1
 | cons w ws=>rw[Q0y];rfl
theorem K7a{f:PWd}{g:PCm}(e:OkV T D):∀ (ws:List Word) (r:List Atm) (i:Int) (m:Nat) (d:List Word),rWs ws=true->(∀w∈ws,w.kind_≠4/\Pcs f g w)->Vw T D (aSep ws [.s [94]] false++r) i->foW r->ws.length<m->2<=d.length+ws.length->d.length+ws.length<=1000000->
 ∃l' j,iter (Q9p S T D g f) m (i,d)=some (.inr (⟨4,[],[],d++l',[]⟩,j))/\zWs l'=zWs ws/\Vw T D r j
 | _,_,_,0,_,_,_,_,_,h,_,_=>absurd h (G2q _)
 | [],r,i,m+1,d,l,p,a,o,u,q,y=>by
   rw[aSep]at a
   have a:Vw T D r i:=a
   have t:=a.pos
   have hT:=e.len
   refine⟨[],i,?_,rfl,a⟩
   show Q9p _ _ _ _ _ _ _=_
   have z:2<=d.length:=q
   rw[Q9p]
   try dsimp only
   rw[Q3i _ t.1 (by omega),G0a,a.isT,o.2]
   try dsimp only
   rw[Q0a,Q0a,G0b (by omega),Q0a,G0n]
 | w::ws,r,i,m+1,d,l,p,a,o,u,q,y=>by
   rw[rWs,G0d]at l
   rw[Q0y]at a
   have a:Vw T D (.s [94]::((aW w++aSep ws [.s [94]] false)++r)) i:=a
   rw[G0e]at a
   have t:=a.pos
   have hT:=e.len
   obtain⟨-,U,A⟩:=a.s
   obtain⟨hk,C,E⟩:=p w (G1g ..)
   obtain⟨w',j,F,H,I⟩:=X3i (S:=S) e w l.1 hk C E A (J8t o)
   have V:d.length+(ws.length+1)<=1000000:=y
   have W:ws.length+1<m+1:=u
   have z:2<=d.length+(ws.length+1):=q
   obtain⟨l',J,K,L,M⟩:=K7a e ws r j m (d++[w']) l.2 (λx O=>p x (G1l _ O)) I o (by omega) (by rw[Q0g];omega) (by rw[Q0g];omega)
   refine⟨w'::l',J,?_,by rw[zWs,zWs,H,L],M⟩
   show Q9p _ _ _ _ _ _ _=_
   rw[Q9p]
   try dsimp only
   have Q:isT (tp T i) [94]=true:=by rw[a.isT];rfl
   rw[Q3i _ t.1 (by omega),G0a,Q]
   try dsimp only
   rw[Q0b,Q0b,F]
   simp only[Q0i]
   rw[Q3g (by simp only[G0i,G0z];omega),G0a,K,G0e]
   rfl
theorem Y3q{f:PWd}{g:PCm}{r:List Atm}(m:OkV T D)(w:Word)(I:rW w=true)(J:Pcs f g w)(o:∀x∈w.words_,Pcs f g x)(a:Vw T D (aW w++r) i)(p:foW r):∃w' j,F252 g f S T D i=some (.inr (w',j))/\zW w'=zW w/\Vw T D r j:=by
 have hT:=m.len
 by_cases u:w.kind_=4
 ·obtain⟨k,t,q,ws,cs⟩:=w
  have u:k=4:=u
  subst u
  rcases Q6x I with⟨e,-⟩|⟨e|e,-⟩|⟨e,-⟩|⟨e,-⟩|⟨e,-⟩|⟨-,hk,rfl,rfl,K,rfl,d⟩
  ·exact absurd e (by decide)
  ·exact absurd e (by decide)
  ·exact absurd e (by decide)
  ·exact absurd e (by decide)
  ·exact absurd e (by decide)
  ·exact absurd e (by decide)
  match ws,K,d,hk,o with
  | w::x::ws,K,d,hk,o=>
  have Q:(w::x::ws).length<=1000000:=by
   have h6:=Q8f (s:=[.s [94]]) (w::x::ws) true d
   rw[aW]at a
   have h5:(dcs (aSep (w::x::ws) [.s [94]] true)).length<=T.length:=Vw.len (r:=r) a
   omega
  have a:Vw T D (aW w++(aSep (x::ws) [.s [94]] false++r)) i:=by
   rw[aW]at a
   have a:Vw T D (aSep (w::x::ws) [.s [94]] true++r) i:=a
   rw[Q3a,G0e]at a
   exact a
  have ak:=a.pos
  rw[rWs,G0d]at d
  have A:∀y∈w::x::ws,y.kind_≠4:=by
   intro y z
   have:=G0p.1 hk y z
   simpa using this
  have L:=o w (G1g ..)
  obtain⟨w',j,C,E,l⟩:=X3i (S:=S) m w d.1 (A w (G1g ..)) L.1 L.2 a (J8t p)
  have F:=l.pos
  rw[rWs,G0d]at d
  rw[Q0y]at l
  have H:Vw T D (.s [94]::((aW x++aSep ws [.s [94]] false)++r)) j:=l
  rw[G0e]at H
  obtain⟨-,al,U⟩:=H.s
  have M:=o x (by simp)
  obtain⟨O,V,W,X,Y⟩:=X3i (S:=S) m x d.2.1 (A x (by simp)) M.1 M.2 U (J8t p)
  have am:ws.length+1+1<=1000000:=Q
  obtain⟨l',j3,e7,e8,e9⟩:=K7a (S:=S) m ws r V BIG [w',O] d.2.2 (λy z=>⟨A y (by simp[z]),o y (by simp[z])⟩) Y p (by unfold BIG;omega) (by simp) (by simp;omega)
  refine⟨⟨4,[],[],w'::O::l',[]⟩,j3,?_,by rw[zW,zW,zWs,zWs,zWs,zWs,E,X,e8],e9⟩
  have af:isT (tp T j) [94]=true:=by rw[H.isT];rfl
  rw[F252,C]
  simp only[Q0i]
  rw[Q3i _ F.1 (by omega),G0a,af]
  simp only[G1a]
  rw[W]
  simp only[Q0i]
  rw[Q3g (by simp only[G0i,G0z];omega),G0a]
  exact e7
 obtain⟨w',j,C,E,l⟩:=X3i (S:=S) m w I u J.1 J.2 a p.1
 have F:=l.pos
 refine⟨w',j,?_,E,l⟩
 rw[F252,C]
 simp only[Q0i]
 rw[Q3i _ F.1 (by omega),G0a,l.isT,p.2]
 rfl
end
theorem J3t(m:Nat):dig (m:Int)=numS m:=by
 rw[dig,numS]
 by_cases h:m<10
 ·rw[G0h (by omega),if_pos h,Q0b,G2l]
 rw[G0b (by omega),if_neg h,Q0a,G2l]
section
variable {S:Str}{T:List Token}{D:List Str}{i:Int}
theorem J9z(f:PWd)(k fd:Int)(rest a b:Str)(ok:Bool)(v:Int)(e:rest≠[])(d:brP rest=some (a,b,ok,v)):Q2x i f S T D (rest,k,fd)=(bif (ok&&decide (b=[]))then some (.inr (Redir.mk 6 v 0 (Word.mk 0 [] [] [] []) false,IntKind.wrap .i64 (i+1)))
 else(bif ok then(F277 b).bind λg=>some (.inr (Redir.mk 5 v g (Word.mk 0 [] [] [] []) false,IntKind.wrap .i64 (i+1)))else Q9o f S T D i k v)):=by
 rw[Q2x]
 dsimp only
 rw[G0b e]
 simp only[G0o,Q0b]
 simp only[brP]at d
 obtain⟨q,l,d⟩:=obs d
 obtain⟨t,m,d⟩:=obs d
 obtain⟨⟨u,b',x⟩,o,d⟩:=obs d
 obtain⟨v',p,d⟩:=obs d
 cases d
 rw[l,G0a,m,G0a,o,G0a]
 dsimp only
 rw[p,G0a]
theorem J9y(f:PWd)(k u fd:Int)(a:0<=fd)(h:fd<64):Q2x i f S T D (brk fd u,k,u)=Q9o f S T D i k fd:=by
 by_cases e:fd=u
 ·rw[brk,G0h e,Q0b,e,Q2x]
  rfl
 obtain⟨m,rfl⟩:=G5w a
 have d:=G0p.1 br1 m (G1y.2 (by omega))
 rw[brk,G0b e,Q0a,J3t,J9z f k u _ _ _ _ _ (by simp) (eq_of_beq d)]
 rfl
theorem J4m{f:PWd}{w:Word}{r:List Atm}(d:OkV T D)(k fd:Int)(e:0<=i)(hb:i<=1000001)(g:Vw T D (.sp::(aW w++r)) (i+1))(l:Rd f w)(m:foW r):∃a j,Q9o f S T D i k fd=some (.inr (a,j))/\zR a=zR ⟨k,fd,0,w,false⟩/\Vw T D r j:=by
 obtain⟨w',j,o,p,q⟩:=l S T D r (i+1) d g.sp m
 refine⟨⟨k,fd,0,w',false⟩,j,?_,by rw[zR,zR,p],q⟩
 rw[Q9o,wr1 e (by omega),o]
 rfl
theorem Y3i(s:Str):F42 s [62]=some (decide (s.head?=some 62)):=by
 rw[F42,F74]
 cases s with
 | nil=>rfl
 | cons c r=>
   rw[G0h (by simp only[G0i,G0z];omega),Q0f,Q0n,if_pos ⟨by decide,by decide,by simp only[G0i,G0z];omega⟩,G0a,G0a]
   show some (true&&decide ([c]=[62]))=some (decide (some c=some 62))
   by_cases a:c=62
   ·subst a
    rfl
   rw[G0b (p:=([c]:Str)=[62]) (λe=>a (List.cons.inj e).1),G0b (p:=some c=some 62) (λe=>a (G3p e))]
   rfl
theorem J7e{f:PWd}{r:List Atm}{x:Str}{c:UInt8}{y:Str}(g:Vw T D (.s x::r) i)(l:OkV T D)(m:x=c::y):F254 f S T D i=(bif decide (c=60)then Q2x i f S T D (y,1,0)else bif decide (y.head?=some 62)then Q2x i f S T D (y.drop 1,3,1)else Q2x i f S T D (y,2,1)):=by
 obtain⟨⟨p,e⟩,u,z⟩:=g.s
 have o:=g.pos
 have hT:=l.len
 subst m
 have q:Q0n (c::y) 1 ((c::y).length:Int)=some y:=Lx.sslice_end [c] y
 have t:sidx (c::y) 0=some (c.toNat:Int):=rfl
 rw[F254,Q1r o.1 (by omega),G0a,e]
 try dsimp only
 rw[G0b (show ¬ (2:Int)=4 by decide),Q0a,q,G0a,t,G0a]
 by_cases a:c=60
 ·subst a
  rfl
 have:¬ (c.toNat:Int)=60:=by
  intro h
  apply a
  apply G8q.1
  have:c.toNat=60:=by omega
  rw[this]
  rfl
 rw[G0b this,G0b a,Q0a,Q0a,Y3i,G0a]
 cases y with
 | nil=>rfl
 | cons d y=>
   cases hd:decide ((d::y).head?=some 62)with
   | false=>rfl
   | true=>
     rw[Q0b,Q0b,show Q0n (d::y) 1 ((d::y).length:Int)=some y from Lx.sslice_end [d] y,G0a]
     rfl
theorem K5g(fd u:Int):decide ((brk fd u).head?=some 62)=false:=by
 rw[brk]
 cases decide (fd=u)<;>rfl
theorem Z8d{w:Word}(h:Z8e w=true):w=⟨0,[],[],[],[]⟩:=by
 obtain⟨k,t,q,ws,cs⟩:=w
 simp[Z8e]at h
 obtain⟨⟨⟨rfl,rfl⟩,rfl⟩,rfl,rfl⟩:=h
 rfl
theorem K8q{f:PWd}{r:List Atm}(l:OkV T D):∀ (d:Redir),rR d=true->(rW d.word_=true->Rd f d.word_)->Vw T D (aR d++r) i->foW r->∃A j,F254 f S T D i=some (.inr (A,j))/\zR A=zR d/\Vw T D r j
 | ⟨k,fd,fr,w,raw⟩,H,C,g,E=>by
   have u:=g.pos
   have hT:=l.len
   obtain⟨⟨x,F,O,f4⟩,hk⟩:=Z7l H
   rcases hk with⟨rfl|rfl|rfl,rfl,rfl,t⟩|⟨rfl,rfl,t⟩|⟨rfl,rfl,rfl,t⟩|⟨rfl,rfl,t⟩
   ·rw[aR]at g
    have g:Vw T D (.s (60::brk fd 0)::.sp::(aW w++r)) i:=g
    obtain⟨-,z,q⟩:=g.s
    rw[J7e g l rfl]
    show ∃A j,Q2x i f S T D (brk fd 0,1,0)=_/\_
    rw[J9y f 1 0 fd x F]
    exact J4m l 1 fd u.1 (by omega) q (C t) E
   ·rw[aR]at g
    have g:Vw T D (.s (62::brk fd 1)::.sp::(aW w++r)) i:=g
    obtain⟨-,z,q⟩:=g.s
    rw[J7e g l rfl,G0b (show ¬ (62:UInt8)=60 by decide),Q0a,K5g,Q0a,J9y f 2 1 fd x F]
    exact J4m l 2 fd u.1 (by omega) q (C t) E
   ·rw[aR]at g
    have g:Vw T D (.s (62::62::brk fd 1)::.sp::(aW w++r)) i:=g
    obtain⟨-,z,q⟩:=g.s
    rw[J7e g l rfl,G0b (show ¬ (62:UInt8)=60 by decide),Q0a]
    show ∃A j,Q2x i f S T D (brk fd 1,3,1)=_/\_
    rw[J9y f 3 1 fd x F]
    exact J4m l 3 fd u.1 (by omega) q (C t) E
   ·obtain⟨a,rfl⟩:=G5w x
    obtain⟨b,rfl⟩:=G5w O
    rw[aR]at g
    have g:Vw T D (.s ([62,91]++dig a++[61]++dig b++[93])::r) i:=g
    obtain⟨-,z,q⟩:=g.s
    have e:=G0p.1 (G0p.1 br3 a (G1y.2 (by omega))) b (G1y.2 (by omega))
    have em:=eq_of_beq (G0p.1 Y1k b (G1y.2 (by omega)))
    have Q:=(V0l b (by omega)).1
    refine⟨⟨5,a,b,⟨0,[],[],[],[]⟩,false⟩,i+1,?_,by rw[Z8d t],q⟩
    rw[J7e (c:=62) (y:=91::(numS a++61::(numS b++[93]))) g l (by rw[J3t,J3t];simp),G0b (show ¬ (62:UInt8)=60 by decide),Q0a]
    show Q2x i f S T D (91::(numS a++61::(numS b++[93])),2,1)=_
    rw[J9z f 2 1 _ _ _ _ _ (by simp) (eq_of_beq e),G0b Q,G2s,Q0a,Q0b,em,G0a,wr1 u.1 (by omega)]
   ·obtain⟨a,rfl⟩:=G5w x
    rw[aR]at g
    have g:Vw T D (.s ([62,91]++dig a++[61,93])::r) i:=g
    obtain⟨-,z,q⟩:=g.s
    have e:=G0p.1 br2 a (G1y.2 (by omega))
    refine⟨⟨6,a,0,⟨0,[],[],[],[]⟩,false⟩,i+1,?_,by rw[Z8d t],q⟩
    rw[J7e (c:=62) (y:=91::(numS a++[61,93])) g l (by rw[J3t];simp),G0b (show ¬ (62:UInt8)=60 by decide),Q0a]
    show Q2x i f S T D (91::(numS a++[61,93]),2,1)=_
    rw[J9z f 2 1 _ _ _ _ _ (by simp) (eq_of_beq e),wr1 u.1 (by omega)]
    rfl
   obtain⟨rfl,I,J,K,L,g5⟩:=Z6x t
   obtain⟨U,o,wq,V,W⟩:=w
   have k1:U=1:=I
   have k2:wq=List.replicate o.length 48:=J
   have X:V=[]:=K
   have Y:W=[]:=L
   clear I J K L t H C
   subst k1 k2 X Y
   rw[aR]at g
   have g:Vw T D (.h raw o::r) i:=g
   obtain⟨⟨p,e⟩,M,z,q⟩:=g.h
   have hN:=(l.tl i).2.1
   rw[e]at hN
   have ak:(mark o).length<=1000000:=by
    have:=(l.tl i).1
    rw[e]at this
    exact this
   refine⟨⟨4,0,0,⟨1,o,List.replicate o.length 48,[],[]⟩,raw⟩,i+1,?_,rfl,q⟩
   rw[F254,Q1r u.1 (by omega),G0a,e]
   try dsimp only
   rw[G0h rfl,Q0b,M,G0a,K9o _ (l.doc i o M),G0a,Q4j,G0a,wr1 u.1 (by omega)]
   have ac:decide (0<=Lib.indexByte (List.replicate (mark o).length (bif raw then 49 else 48)) 49)=raw:=by
    have h:=J6f (List.replicate (mark o).length (bif raw then 49 else 48)) 49
    obtain⟨m,hm,-⟩:=Q8u o
    have hc:(List.replicate (mark o).length (bif raw then(49:UInt8)else 48)).contains 49=raw:=by
     rw[hm,G0i,G3g]
     cases raw with
     | true=>rfl
     | false=>simp
    rw[hc]at h
    cases raw with
    | true=>
      have:¬ Lib.indexByte (List.replicate (mark o).length (bif true then(49:UInt8)else 48)) 49<0:=G6b h
      exact G0h (by omega)
    | false=>
      have:Lib.indexByte (List.replicate (mark o).length (bif false then(49:UInt8)else 48)) 49<0:=G3e h
      exact G0b (by omega)
   rw[ac]
end
theorem K7i{t:Token}(h:t.kind_≠1):kwT t=[]:=by
 rw[kwT,plT,G0b h]
 rfl
theorem X2q{t:Token}(h:bW t=false):t.kind_≠1:=by
 intro e
 rw[bW,e]at h
 cases h
theorem J6t{d:Redir}(h:rR d=true):∃t,bR t=true/\bW t=false/\t.kind_≠3/\isT t [94]=false/\isT t [61]=false/\∀x,nt (aR d++x)=t:=by
 obtain⟨k,fd,a,w,raw⟩:=d
 obtain⟨-,hk⟩:=Z7l h
 rcases hk with⟨rfl|rfl|rfl,-⟩|⟨rfl,-⟩|⟨rfl,-⟩|⟨rfl,-⟩
 ·refine⟨⟨2,0,60::brk fd 0,[]⟩,?_,?_,show(2:Int)≠3 by decide,?_,?_,λx=>by rw[aR];rfl⟩<;>simp[bR,bW,isT,c0,B]
 ·refine⟨⟨2,0,62::brk fd 1,[]⟩,?_,?_,show(2:Int)≠3 by decide,?_,?_,λx=>by rw[aR];rfl⟩<;>simp[bR,bW,isT,c0,B]
 ·refine⟨⟨2,0,62::62::brk fd 1,[]⟩,?_,?_,show(2:Int)≠3 by decide,?_,?_,λx=>by rw[aR];rfl⟩<;>simp[bR,bW,isT,c0,B]
 ·refine⟨⟨2,0,[62,91]++dig fd++[61]++dig a++[93],[]⟩,?_,?_,show(2:Int)≠3 by decide,?_,?_,λx=>by rw[aR];rfl⟩<;>simp[bR,bW,isT,c0,B]
 ·refine⟨⟨2,0,[62,91]++dig fd++[61,93],[]⟩,?_,?_,show(2:Int)≠3 by decide,?_,?_,λx=>by rw[aR];rfl⟩<;>simp[bR,bW,isT,c0,B]
 exact⟨⟨4,0,mark w.text_,List.replicate (mark w.text_).length (bif raw then 49 else 48)⟩,rfl,rfl,show(4:Int)≠3 by decide,rfl,rfl,λx=>by rw[aR];rfl⟩
theorem Q8g(d:Redir)(l:List Redir)(b:Bool):aRs (d::l) b=(bif b then[]else[.sp])++(aR d++aRs l false):=by rw[aRs]
theorem X9k{l:List Redir}{x:List Atm}(h:rRs l=true)(a:foW x):foW (aRs l false++x):=by
 cases l with
 | nil=>rw[aRs];exact a
 | cons d l=>
   rw[rRs,G0d]at h
   obtain⟨t,-,-,-,e,-,f⟩:=J6t h.1
   rw[Q8g,G0e,G0e]
   refine⟨rfl,?_⟩
   show isT (nt (aR d++(aRs l false++x))) [94]=false
   rw[f]
   exact e
structure FoC(r:List Atm):Prop where
 w:foW r
 c:bC (nt r)=false
 e:isT (nt r) [61]=false
theorem FoC.nw{r:List Atm}(h:FoC r):bW (nt r)=false:=by
 have:=h.c
 rw[bC]at this
 simp only[G2n]at this
 exact this.1.1.1.1
theorem FoC.nr{r:List Atm}(h:FoC r):bR (nt r)=false:=by
 have:=h.c
 rw[bC]at this
 simp only[G2n]at this
 exact this.1.1.1.2
section
variable {S:Str}{T:List Token}{D:List Str}{i:Int}
def RdR(f:PWd)(d:Redir):Prop:=rW d.word_=true->Rd f d.word_
theorem J5b{f:PWd}{t0:Token}(g:OkV T D):∀ (rs:List Redir) (b:Bool) (r:List Atm) (i:Int) (m:Nat) (ws:List Word) (e:List Redir),rRs rs=true->(∀d∈rs,RdR f d)->Vw T D (aRs rs b++r) i->FoC r->rs.length<m->e.length+rs.length<=1000000->
 ∃l' j,iter (Q4x S T D f t0) m (i,ws,e)=some (.inr (⟨1,t0.at_,[],ws,e++l',[]⟩,j))/\zRs l'=zRs rs/\Vw T D r j
 | _,_,_,_,0,_,_,_,_,_,_,h,_=>absurd h (G2q _)
 | [],b,r,i,m+1,ws,e,o,p,a,l,z,A=>by
   rw[aRs]at a
   have a:Vw T D r i:=a
   have q:=a.pos
   have hT:=g.len
   refine⟨[],i,?_,rfl,a⟩
   show Q4x _ _ _ _ _ _ _=_
   have hk:kwT (tp T i)=[]:=by rw[a.kwT];exact K7i (X2q l.nw)
   rw[Q4x]
   try dsimp only
   rw[Q1r q.1 (by omega),G0a,Z9m (g.tl i).1,hk]
   cases decide ((ws.length:Int)=0)&&decide (0<(e.length:Int))with
   | true=>
     rw[Q0f,G0a]
     simp only[G4x,G0m,G2s,G3b,G0v]
     rw[Q2y,G0a,a.bW,l.nw,Q0a,Z4w (g.tl i).2.2,G0a,a.bR,l.nr,Q0a,G0n]
   | false=>
     rw[Q2h,G0a]
     simp only[G3b,G0v]
     rw[Q2y,G0a,a.bW,l.nw,Q0a,Z4w (g.tl i).2.2,G0a,a.bR,l.nr,Q0a,G0n]
 | d::rs,b,r,i,m+1,ws,e,o,p,a,l,z,A=>by
   rw[rRs,G0d]at o
   have a:Vw T D (aR d++(aRs rs false++r)) i:=by
    rw[Q8g,G0e,G0e]at a
    cases b with
    | true=>exact a
    | false=>exact a.sp
   have q:=a.pos
   have hT:=g.len
   obtain⟨t,F,C,g3,-,-,u⟩:=J6t o.1
   obtain⟨y,j,H,I,J⟩:=K8q (S:=S) g d o.1 (p d (G1g ..)) a (X9k o.2 l.w)
   have ag:rs.length+1<m+1:=z
   have ah:e.length+(rs.length+1)<=1000000:=A
   obtain⟨l',E,K,L,M⟩:=J5b g rs false r j m ws (e++[y]) o.2 (λx O=>p x (G1l _ O)) J l (by omega) (by rw[Q0g];omega)
   refine⟨y::l',E,?_,by rw[zRs,zRs,I,L],M⟩
   show Q4x _ _ _ _ _ _ _=_
   have hk:kwT (tp T i)=[]:=by rw[a.kwT,u];exact K7i (X2q C)
   have Q:bW (tp T i)=false:=by rw[a.bW,u];exact C
   have U:bR (tp T i)=true:=by rw[a.bR,u];exact F
   rw[Q4x]
   try dsimp only
   rw[Q1r q.1 (by omega),G0a,Z9m (g.tl i).1,hk]
   have fin:(F129 (tp T i)).bind (λV=>bif V then Q0i (f S T D i) λ(W,X)=>(appO 88 ws [W]).bind λY=>iter (Q4x S T D f t0) m (X,Y,e)else(F130 (tp T i)).bind λaa=>bif aa then Q0i (F254 f S T D i) λ(ac,ad)=>(appO 120 e [ac]).bind λae=>iter (Q4x S T D f t0) m (ad,ws,ae)else some (.inr (Cmd.mk 1 t0.at_ [] ws e [],i)))=some (.inr (⟨1,t0.at_,[],ws,e++y::l',[]⟩,E)):=by
    rw[Q2y,G0a,Q,Q0a,Z4w (g.tl i).2.2,G0a,U,Q0b,H]
    simp only[Q0i]
    rw[Q3g (by simp only[G0i,G0z];omega),G0a,K,G0e]
    rfl
   cases decide ((ws.length:Int)=0)&&decide (0<(e.length:Int))with
   | true=>
     rw[Q0f,G0a]
     simp only[G4x,G0m,G2s,G3b,G0v]
     exact fin
   | false=>
     rw[Q2h,G0a]
     simp only[G3b,G0v]
     exact fin
theorem J5a{f:PWd}{t0:Token}{rs:List Redir}{r:List Atm}(q:OkV T D)(u:rRs rs=true)(H:∀d∈rs,RdR f d)(y:FoC r)(K:rs.length<=1000000):∀ (ws:List Word) (b g:Bool) (i:Int) (m:Nat) (e:List Word),rWs ws=true->(∀w∈ws,Rd f w)->(ws≠[]->g=false)->Vw T D (aSep ws [.sp] b++(aRs rs g++r)) i->ws.length+rs.length<m->e.length+ws.length<=1000000->
 ∃l' l j,iter (Q4x S T D f t0) m (i,e,[])=some (.inr (⟨1,t0.at_,[],e++l',l,[]⟩,j))/\zWs l'=zWs ws/\zRs l=zRs rs/\Vw T D r j
 | _,_,_,_,0,_,_,_,_,_,h,_=>absurd h (G2q _)
 | [],b,g,i,m+1,e,o,z,I,a,A,J=>by
   rw[aSep]at a
   have a:Vw T D (aRs rs g++r) i:=a
   have L:0+rs.length<m+1:=A
   obtain⟨l,j,C,E,F⟩:=J5b (S:=S) (t0:=t0) q rs g r i (m+1) e [] u H a y (by omega) (by simp;omega)
   exact⟨[],l,j,by rw[C,G0n];rfl,rfl,E,F⟩
 | w::ws,b,g,i,m+1,e,o,z,I,a,A,J=>by
   rw[rWs,G0d]at o
   have M:=I (by simp)
   subst M
   have a:Vw T D (aW w++(aSep ws [.sp] false++(aRs rs false++r))) i:=by
    cases b with
    | true=>rw[Q3a,G0e]at a;exact a
    | false=>rw[Q0y,G0e,G0e]at a;exact a.sp
   have O:=a.pos
   have hT:=q.len
   obtain⟨t,Q,U⟩:=Z1r w o.1
   have V:bW (tp T i)=true:=by rw[a.bW,U];exact Q
   obtain⟨w',j,C,E,F⟩:=z w (G1g ..) S T D _ i q a (Q8z o.2 (X9k u y.w))
   have L:ws.length+1+rs.length<m+1:=A
   have af:e.length+(ws.length+1)<=1000000:=J
   obtain⟨l',l,W,X,Y,e6,e7⟩:=J5a q u H y K ws false false j m (e++[w']) o.2 (λx hx=>z x (G1l _ hx)) (λ_=>rfl) F (by omega) (by rw[Q0g];omega)
   refine⟨w'::l',l,W,?_,by rw[zWs,zWs,E,Y],e6,e7⟩
   show Q4x _ _ _ _ _ _ _=_
   rw[Q4x]
   try dsimp only
   have hg:(decide ((e.length:Int)=0)&&decide (0<(([]:List Redir).length:Int)))=false:=by
    rw[G0b (p:=(0:Int)<_) (by simp),G2s]
   rw[Q1r O.1 (by omega),G0a,hg,Q2h,G0a]
   simp only[G3b,G0v]
   rw[Q2y,G0a,V,Q0b,C]
   simp only[Q0i]
   rw[Q3g (by simp only[G0i,G0z];omega),G0a,X,G0e]
   rfl
theorem Y1p{d:Redir}(h:rR d=true):1<=(dcs (aR d)).length:=by
 obtain⟨t,f,-,-,-,-,g⟩:=J6t h
 cases e:dcs (aR d)with
 | nil=>
   have:=J3g (aR d) [] e
   rw[g]at this
   rw[this]at f
   cases f
 | cons a r=>simp
theorem J9j:∀ (rs:List Redir) (b:Bool),rRs rs=true->rs.length<=(dcs (aRs rs b)).length
 | [],_,_=>G1t _
 | d::r,b,h=>by
   rw[rRs,G0d]at h
   have a:=Y1p h.1
   have e:=J9j r false h.2
   rw[aRs,Q4a,Q4a,G0g,G0g,G0i]
   omega
theorem Y3r{f:PWd}{ws:List Word}{rs:List Redir}{r:List Atm}(e:OkV T D)(g:rWs ws=true)(l:rRs rs=true)(m:∀w∈ws,Rd f w)(o:∀d∈rs,RdR f d)(a:Vw T D ((aSep ws [.sp] true++aRs rs (decide (ws=[])))++r) i)(p:FoC r):
 ∃c' j,F231 f S T D i=some (.inr (c',j))/\zC c'=zC ⟨1,0,[],ws,rs,[]⟩/\Vw T D r j:=by
 have hT:=e.len
 have q:=a.len
 rw[Q4a,G0g]at q
 have C:=Q8f (s:=[.sp]) ws true g
 have E:=J9j rs (decide (ws=[])) l
 rw[G0e]at a
 have t:=a.pos
 obtain⟨l',u,j,x,y,z,A⟩:=J5a (S:=S) (t0:=tp T i) e l o p (by omega) ws true (decide (ws=[])) i BIG [] g m (λh=>G0b h) a (by unfold BIG;omega) (by simp;omega)
 refine⟨⟨1,(tp T i).at_,[],l',u,[]⟩,j,?_,by rw[zC,zC,y,z],A⟩
 rw[F231,Q1r t.1 (by omega),G0a]
 exact x
end
theorem bC_w{t:Token}(h:bW t=true):bC t=true:=by rw[bC,h];rfl
theorem bC_r{t:Token}(h:bR t=true):bC t=true:=by
 rw[bC,h]
 cases bW t<;>rfl
theorem J0k:∀ (c:Cmd),rC c=true->∃t,bC t=true/\∀x,nt (aC c++x)=t
 | ⟨k,a,nm,ws,rs,ks⟩,h=>by
   rcases Q4t h with⟨rfl,-,m,-,f,o,-⟩|⟨rfl,-⟩|⟨rfl|rfl|rfl,-⟩|⟨rfl,-,-,-,m,f⟩|⟨rfl|rfl,-⟩|⟨rfl|rfl,-,-,-,m,f⟩|⟨rfl,-⟩|⟨rfl,-⟩|⟨rfl,-⟩|⟨rfl,-,-,-,m,f⟩|⟨rfl,-⟩|⟨rfl,-⟩
   ·have e:aC ⟨1,a,nm,ws,rs,ks⟩=aSep ws [.sp] true++aRs rs (decide (ws=[])):=by rw[aC];rfl
    rw[e]
    cases ws with
    | nil=>
      cases rs with
      | nil=>simp at m
      | cons d r=>
        rw[rRs,G0d]at o
        obtain⟨t,g,-,-,-,-,l⟩:=J6t o.1
        refine⟨t,bC_r g,λx=>?_⟩
        rw[aSep,G0t,Q8g,G0h rfl,Q0b,G0t,G0e]
        exact l _
    | cons w r=>
      rw[rWs,G0d]at f
      obtain⟨t,g,l⟩:=Z1r w f.1
      refine⟨t,bC_w g,λx=>?_⟩
      rw[Q3a,G0e,G0e]
      exact l _
   ·exact⟨⟨1,0,nm,zr nm.length⟩,rfl,λx=>by rw[aC];rfl⟩
   ·exact⟨⟨2,0,[33],[]⟩,rfl,λx=>by rw[aC];rfl⟩
   ·exact⟨⟨2,0,[64],[]⟩,rfl,λx=>by rw[aC];rfl⟩
   ·exact⟨⟨1,0,[105,102],zr 2⟩,rfl,λx=>by rw[aC];rfl⟩
   ·match ks,m,f with
    | [c],_,f=>
      obtain⟨t,g,l⟩:=J0k c (Q8s f).2
      have e:aC ⟨14,a,nm,ws,rs,[c]⟩=aJ [c] [] true++[.sp,.s [38]]:=by rw[aC];rfl
      refine⟨t,g,λx=>?_⟩
      rw[e,Q4r,G0e]
      exact l _
   ·exact⟨⟨1,0,[105,102],zr 2⟩,rfl,λx=>by rw[aC];rfl⟩
   ·exact⟨⟨1,0,[119,104,105,108,101],zr 5⟩,rfl,λx=>by rw[aC];rfl⟩
   ·match ks,m,f with
    | [c,d],_,f=>
      rw[rAnd,G0d,G0d]at f
      obtain⟨t,g,l⟩:=J0k c f.1.2
      have e:aC ⟨5,a,nm,ws,rs,[c,d]⟩=aJ [c,d] [.sp,.s [38,38],.sp] true:=by rw[aC];rfl
      refine⟨t,g,λx=>?_⟩
      rw[e,aJ,Q0b,G0t,G0e]
      exact l _
   ·match ks,m,f with
    | [c,d],_,f=>
      rw[rAnd,G0d,G0d]at f
      obtain⟨t,g,l⟩:=J0k c f.1.2
      have e:aC ⟨6,a,nm,ws,rs,[c,d]⟩=aJ [c,d] [.sp,.s [124,124],.sp] true:=by rw[aC];rfl
      refine⟨t,g,λx=>?_⟩
      rw[e,aJ,Q0b,G0t,G0e]
      exact l _
   ·exact⟨⟨1,0,[102,111,114],zr 3⟩,rfl,λx=>by rw[aC];rfl⟩
   ·exact⟨⟨2,0,[123],[]⟩,rfl,λx=>by rw[aC];rfl⟩
   ·exact⟨⟨1,0,[102,110],zr 2⟩,rfl,λx=>by rw[aC];rfl⟩
   ·match ks,m,f with
    | c::r,_,f=>
      rw[rUp,G0d,G0d]at f
      obtain⟨t,g,l⟩:=J0k c f.1.2
      have e:aC ⟨3,a,nm,ws,rs,c::r⟩=aJ (c::r) [.sp,.s [124],.sp] true:=by rw[aC];rfl
      refine⟨t,g,λx=>?_⟩
      rw[e,aJ,Q0b,G0t,G0e]
      exact l _
   ·exact⟨⟨1,0,[126],zr 1⟩,rfl,λx=>by rw[aC];rfl⟩
   exact⟨⟨1,0,[115,119,105,116,99,104],zr 6⟩,rfl,λx=>by rw[aC];rfl⟩
theorem bC_k{t:Token}(h:bC t=true):t.kind_≠3/\isT t [94]=false/\isT t [61]=false:=by
 refine⟨λe=>?_,?_,?_⟩
 ·rw[bC,bW,bR,isT,isT,isT,isT,isT,isT,isT,e]at h
  cases h
 ·cases a:isT t [94]with
  | false=>rfl
  | true=>
    rw[isT,G0d,G0l,G0l]at a
    rw[bC,bW,bR,isT,isT,isT,isT,isT,isT,isT,a.1,a.2]at h
    exact absurd h (by decide)
 cases a:isT t [61]with
 | false=>rfl
 | true=>
   rw[isT,G0d,G0l,G0l]at a
   rw[bC,bW,bR,isT,isT,isT,isT,isT,isT,isT,a.1,a.2]at h
   exact absurd h (by decide)
def RdK(g:PCm)(c:Cmd):Prop:=∀ (S:Str) (T:List Token) (D:List Str) (ic:Bool) (r:List Atm) (i:Int),OkV T D->Vw T D (aC c++r) i->FoC r->∃c' j,g ic S T D i=some (.inr (c',j))/\zC c'=zC c/\Vw T D r j
section
variable {S:Str}{T:List Token}{D:List Str}{i:Int}
theorem K2d{n:Str}{r:List Atm}(a:OkV T D)(d:Vw T D (ax n::r) i)(f:nameB n=true):F256 S T D i=some (.inr (n,i+1)):=by
 obtain⟨⟨p,e⟩,l,-⟩:=d.w
 have g:=d.pos
 have hT:=a.len
 exact X3k a g.1 (by omega) e f
theorem K2g{g:PCm}{c:Cmd}{r:List Atm}{ic:Bool}(d:OkV T D)(k n:Int)(l:0<=i)(hb:i<=1000001)(x:0<=n/\n<=2)(y:beg (aC c))(hk:RdK g c)(a:Vw T D (.sp::(aC c++r)) (i+n))(m:FoC r)(e:(nt (aC c++r)).kind_≠3):
 ∃c' j,F224 g k n ic S T D i=some (.inr (c',j))/\zC c'=zC ⟨k,0,[],[],[],[c]⟩/\Vw T D r j:=by
 have a:=a.sp
 obtain⟨c',j,o,p,q⟩:=hk S T D ic r (i+n) d a m
 refine⟨⟨k,(tp T i).at_,[],[],[],[c']⟩,j,?_,by rw[zC,zC,zCs,zCs,p];rfl,q⟩
 have f:Z4o g ic S T D k (tp T i) (i+n)=some (.inr (⟨k,(tp T i).at_,[],[],[],[c']⟩,j)):=by
  rw[Z4o,o]
  rfl
 have t:=a.pos
 have hT:=d.len
 rw[F224,Q1r l (by omega),G0a,Q0j (by omega) (by omega)]
 have u:(tp T (i+n)).kind_≠3:=by
  have:=a.nt
  rw[<-this]at e
  exact e
 cases decide (k=9)with
 | true=>rw[Q0b,Q4k t.1 (by omega) u,G0a,f]
 | false=>rw[Q0a,f]
theorem Y7w{c:Cmd}{x:List Atm}(h:rC c=true):foW (.sp::(aC c++x)):=by
 obtain⟨t,a,d⟩:=J0k c h
 refine⟨rfl,?_⟩
 show isT (nt (aC c++x)) [94]=false
 rw[d]
 exact(bC_k a).2.1
theorem Z9d{c:Cmd}{r:List Atm}(a:Vw T D (aC c++r) i)(h:rC c=true):bC (tp T i)=true/\(tp T i).kind_≠3:=by
 obtain⟨t,d,e⟩:=J0k c h
 refine⟨by rw[a.bC,e];exact d,?_⟩
 have:=a.nt
 rw[e]at this
 have f:=(bC_k d).1
 rw[<-this]at f
 exact f
theorem Y4a{g:PCm}{f:PWd}{nm:Str}{w:Word}{r:List Atm}{ic:Bool}(a:OkV T D)(q:Rd f w)(l:Vw T D (ax nm::.s [61]::(aW w++r)) i)(m:FoC r):∃c' j,F223 g f ic S T D i=some (.inr (c',j))/\zC c'=zC ⟨2,0,nm,[w],[],[]⟩/\Vw T D r j:=by
 obtain⟨⟨p,e⟩,A,t⟩:=l.w
 obtain⟨-,C,o⟩:=t.s
 have u:=l.pos
 have hT:=a.len
 rw[show i+1+1=i+2 by omega]at o
 obtain⟨w',j,x,y,d⟩:=q S T D r (i+2) a o m.w
 have z:=d.pos
 refine⟨⟨2,p,nm,[w'],[],[]⟩,j,?_,by simp only[zC,zCs,zWs,zRs,y],d⟩
 rw[F223,Q1r u.1 (by omega),G0a,Q0j (by omega) (by omega),x]
 simp only[Q0i]
 rw[K6a a.toOkT z.1 (by omega),G0a,d.bC,m.c,Q0a,e]
theorem Y3z{g:PCm}{f:PWd}{nm:Str}{w:Word}{c:Cmd}{r:List Atm}{ic:Bool}(d:OkV T D)(q:Rd f w)(t:RdK g c)(l:rC c=true)(m:Vw T D (ax nm::.s [61]::(aW w++(.sp::(aC c++r)))) i)(u:FoC r):∃c' j,F223 g f ic S T D i=some (.inr (c',j))/\zC c'=zC ⟨2,0,nm,[w],[],[c]⟩/\Vw T D r j:=by
 obtain⟨⟨p,e⟩,J,x⟩:=m.w
 obtain⟨-,K,o⟩:=x.s
 have y:=m.pos
 have hT:=d.len
 rw[show i+1+1=i+2 by omega]at o
 obtain⟨w',j,z,A,a⟩:=q S T D _ (i+2) d o (Y7w l)
 have a:=a.sp
 have C:=a.pos
 obtain⟨c',E,F,H,I⟩:=t S T D ic r j d a u
 refine⟨⟨2,p,nm,[w'],[],[c']⟩,E,?_,by simp only[zC,zCs,zWs,zRs,A,H],I⟩
 rw[F223,Q1r y.1 (by omega),G0a,Q0j (by omega) (by omega),z]
 simp only[Q0i]
 rw[K6a d.toOkT C.1 (by omega),G0a,(Z9d a l).1,Q0b,F,e]
theorem Y3x{g:PCm}{t:Str}{k a:Int}{nm:Str}{cs:List Cmd}{c:Cmd}{r:List Atm}{ic:Bool}(f:OkV T D)(u:RdL g false cs)(x:RdK g c)(y:rC c=true)(m:Vw T D (ax t::.s [40]::.nl::(aIts cs++(.s [41]::.sp::(aC c++r)))) i)(z:FoC r):∃c' j,F226 g k ic S T D i=some (.inr (c',j))/\zC c'=zC ⟨k,0,[],[],[],[⟨12,0,[],[],[],cs⟩,c]⟩/\Vw T D r j:=by
 obtain⟨⟨p,e⟩,O,o⟩:=m.w
 obtain⟨⟨A,C⟩,Q,E⟩:=o.s
 have q:=m.pos
 have hT:=f.len
 obtain⟨l',j,F,H,l⟩:=u S T D true _ (i+1+1) f E ⟨rfl,.inl rfl⟩
 have I:=l.pos
 obtain⟨-,U,d⟩:=l.s
 have d:=d.sp
 obtain⟨c',J,K,L,M⟩:=x S T D ic r (j+1) f d z
 refine⟨⟨k,p,[],[],[],[⟨12,A,[],[],[],l'⟩,c']⟩,J,?_,by simp only[zC,zCs,zWs,zRs,H,L],M⟩
 rw[F226,Q1r q.1 (by omega),G0a,wr1 q.1 (by omega),Z1f (by omega) (by omega) (by rw[o.isT];rfl)]
 simp only[Q0i]
 rw[F]
 simp only
 rw[Z1f I.1 (by omega) (by rw[l.isT];rfl)]
 simp only
 rw[Q4k (by omega) (by omega) (Z9d d y).2,G0a,K,e,C]
theorem Y3w{g:PCm}{f:PWd}{nm:Str}{ws:List Word}{c:Cmd}{r:List Atm}{ic:Bool}(a:OkV T D)(A:nameB nm=true)(q:rWs ws=true)(C:∀w∈ws,Rd f w)(E:RdK g c)(F:rC c=true)(t:Vw T D (ax [102,111,114]::.s [40]::ax nm::.sp::ax [105,110]::(aSep ws [.sp] false++(.s [41]::.sp::(aC c++r)))) i)(H:FoC r):∃c' j,F227 g f ic S T D i=some (.inr (c',j))/\zC c'=zC ⟨10,0,nm,ws,[],[c]⟩/\Vw T D r j:=by
 obtain⟨⟨p,e⟩,Q,u⟩:=t.w
 obtain⟨⟨U,V⟩,W,x⟩:=u.s
 obtain⟨-,X,d⟩:=x.w
 have d:=d.sp
 obtain⟨⟨Y,e3⟩,ac,y⟩:=d.w
 have z:=t.pos
 have hT:=a.len
 have h1:=y.len
 have h2:=Q8f (s:=[.sp]) ws false q
 obtain⟨l',j,m,I,o⟩:=J2m (S:=S) a ws false _ _ BIG [] q C y ⟨rfl,rfl⟩ rfl (show(2:Int)≠3 by decide) (by unfold BIG;omega) (by simp;omega)
 have J:=o.pos
 obtain⟨-,af,l⟩:=o.s
 have l:=l.sp
 obtain⟨c',K,L,M,O⟩:=E S T D ic r (j+1) a l H
 refine⟨⟨10,p,nm,l',[],[c']⟩,K,?_,by simp only[zC,zCs,zWs,zRs,I,M],O⟩
 have hk:kwT (tp T (i+1+1+1))=[105,110]:=by rw[d.kwT];kernel_rfl
 rw[F227,Q1r z.1 (by omega),G0a,wr1 z.1 (by omega),Z1f (by omega) (by omega) (by rw[u.isT];rfl)]
 simp only[Q0i]
 rw[K2d a x A]
 simp only
 rw[Q1r (by omega) (by omega),G0a,Z9m (a.tl _).1,G0a,hk,G0h rfl,Q0b,wr1 (by omega) (by omega)]
 have m:F257 f S T D (i+1+1+1+1)=some (.inr (l',j)):=m
 rw[m]
 simp only
 rw[Z1f J.1 (by omega) (by rw[o.isT];rfl)]
 simp only
 rw[Q4k (by omega) (by omega) (Z9d l F).2,G0a,L,e]
end
section
variable {S:Str}{T:List Token}{D:List Str}{i:Int}
theorem X2o{f:PWd}{t0:Token}{l:List Cmd}(g:OkV T D):∀ (rs:List Redir) (r:List Atm) (i:Int) (m:Nat) (e:List Redir),rRs rs=true->(∀d∈rs,RdR f d)->Vw T D (aRs rs false++r) i->FoC r->rs.length<m->e.length+rs.length<=1000000->
 ∃l' j,iter (Z1w S T D f t0 l) m (i,e)=some (.inr (⟨12,t0.at_,[],[],e++l',l⟩,j))/\zRs l'=zRs rs/\Vw T D r j
 | _,_,_,0,_,_,_,_,_,h,_=>absurd h (G2q _)
 | [],r,i,m+1,e,o,q,a,p,y,z=>by
   rw[aRs]at a
   have a:Vw T D r i:=a
   have u:=a.pos
   have hT:=g.len
   refine⟨[],i,?_,rfl,a⟩
   show Z1w _ _ _ _ _ _ _ _=_
   rw[Z1w]
   try dsimp only
   rw[Q1r u.1 (by omega),G0a,Z4w (g.tl i).2.2,G0a,a.bR,p.nr,Q0a,G0n]
 | d::rs,r,i,m+1,e,o,q,a,p,y,z=>by
   rw[rRs,G0d]at o
   have a:Vw T D (aR d++(aRs rs false++r)) i:=by
    rw[Q8g,G0e,G0e]at a
    exact a.sp
   have u:=a.pos
   have hT:=g.len
   obtain⟨t,C,U,V,-,-,E⟩:=J6t o.1
   obtain⟨A,j,F,H,I⟩:=K8q (S:=S) g d o.1 (q d (G1g ..)) a (X9k o.2 p.w)
   have W:rs.length+1<m+1:=y
   have X:e.length+(rs.length+1)<=1000000:=z
   obtain⟨l',J,K,L,M⟩:=X2o g rs r j m (e++[A]) o.2 (λx O=>q x (G1l _ O)) I p (by omega) (by rw[Q0g];omega)
   refine⟨A::l',J,?_,by rw[zRs,zRs,H,L],M⟩
   show Z1w _ _ _ _ _ _ _ _=_
   have Q:bR (tp T i)=true:=by rw[a.bR,E];exact C
   rw[Z1w]
   try dsimp only
   rw[Q1r u.1 (by omega),G0a,Z4w (g.tl i).2.2,G0a,Q,Q0b,F]
   simp only[Q0i]
   rw[Q3g (by simp only[G0i,G0z];omega),G0a,K,G0e]
   rfl
theorem Y3y{f:PWd}{g:PCm}{cs:List Cmd}{rs:List Redir}{r:List Atm}(a:OkV T D)(p:RdL g false cs)(e:rRs rs=true)(q:∀d∈rs,RdR f d)(m:Vw T D (.s [123]::.nl::(aIts cs++.s [125]::(aRs rs false++r))) i)(t:FoC r):∃c' j,F225 g f S T D i=some (.inr (c',j))/\zC c'=zC ⟨12,0,[],[],rs,cs⟩/\Vw T D r j:=by
 have u:=m.pos
 have hT:=a.len
 obtain⟨l',j,x,y,o⟩:=K2e (S:=S) a m p
 have H:=o.len
 have I:=J9j rs false e
 obtain⟨z,A,C,E,F⟩:=X2o (S:=S) (t0:=tp T i) (l:=l') a rs r j BIG [] e q o t (by unfold BIG;omega) (by simp;omega)
 refine⟨⟨12,(tp T i).at_,[],[],z,l'⟩,A,?_,by simp only[zC,zCs,zWs,zRs,y,E],F⟩
 rw[F225,Q1r u.1 (by omega),G0a,x]
 exact C
theorem Y3u{g:PCm}{nm:Str}{r:List Atm}(d:OkV T D)(o:nameB nm=true)(f:Vw T D (ax [102,110]::.sp::ax nm::r) i)(q:FoC r):∃c' j,F229 g S T D i=some (.inr (c',j))/\zC c'=zC ⟨15,0,nm,[],[],[]⟩/\Vw T D r j:=by
 obtain⟨⟨p,e⟩,t,a⟩:=f.w
 have a:=a.sp
 obtain⟨-,u,l⟩:=a.w
 have m:=f.pos
 have hT:=d.len
 have hb:isT (tp T (i+1+1)) [123]=false:=by
  have:=q.c
  rw[<-l.bC]at this
  cases h:isT (tp T (i+1+1)) [123]with
  | false=>rfl
  | true=>
    rw[bC,h,G7h]at this
    cases this
 refine⟨⟨15,p,nm,[],[],[]⟩,i+1+1,?_,rfl,l⟩
 rw[F229,Q1r m.1 (by omega),G0a,wr1 m.1 (by omega),K2d d a o]
 simp only[Q0i]
 rw[Z4x _ (by omega) (by omega),G0a,hb,G0o,Q0b,e]
theorem Y3t{g:PCm}{nm:Str}{cs:List Cmd}{r:List Atm}(f:OkV T D)(q:nameB nm=true)(t:RdL g false cs)(u:cs≠[])(l:Vw T D (ax [102,110]::.sp::ax nm::.sp::.s [123]::.nl::(aIts cs++.s [125]::r)) i):∃c' j,F229 g S T D i=some (.inr (c',j))/\zC c'=zC ⟨15,0,nm,[],[],cs⟩/\Vw T D r j:=by
 obtain⟨⟨p,e⟩,A,a⟩:=l.w
 have a:=a.sp
 obtain⟨-,C,d⟩:=a.w
 have d:=d.sp
 have m:=l.pos
 have hT:=f.len
 obtain⟨l',j,x,o,y⟩:=K2e (S:=S) f d t
 have hb:isT (tp T (i+1+1)) [123]=true:=by rw[d.isT];rfl
 have z:¬ (l'.length:Int)=0:=by
  rw[X6d o]
  have:=G3z.2 u
  omega
 refine⟨⟨15,p,nm,[],[],l'⟩,j,?_,by simp only[zC,zCs,zWs,zRs,o],y⟩
 rw[F229,Q1r m.1 (by omega),G0a,wr1 m.1 (by omega),K2d f a q]
 simp only[Q0i]
 rw[Z4x _ (by omega) (by omega),G0a,hb,G0m,Q0a,x]
 simp only
 rw[G0b z,Q0a,e]
theorem X1v{f:PWd}{t0:Token}{r:List Atm}(g:OkV T D)(l:FoC r):∀ (ws:List Word) (i:Int) (m:Nat) (d:List Word),rWs ws=true->(∀w∈ws,Rd f w)->Vw T D (aSep ws [.sp] false++r) i->ws.length<m->d.length+ws.length<=1000000->
 ∃l' j,iter (Q9q S T D f t0) m (i,d)=some (.inr (⟨16,t0.at_,[],d++l',[],[]⟩,j))/\zWs l'=zWs ws/\Vw T D r j
 | _,_,0,_,_,_,_,h,_=>absurd h (G2q _)
 | [],i,m+1,d,e,o,a,q,u=>by
   rw[aSep]at a
   have a:Vw T D r i:=a
   have p:=a.pos
   have hT:=g.len
   refine⟨[],i,?_,rfl,a⟩
   show Q9q _ _ _ _ _ _ _=_
   rw[Q9q]
   try dsimp only
   rw[Q1r p.1 (by omega),G0a,Q2y,G0a,a.bW,l.nw,Q0a,G0n]
 | w::ws,i,m+1,d,e,o,a,q,u=>by
   rw[rWs,G0d]at e
   have a:Vw T D (aW w++(aSep ws [.sp] false++r)) i:=by
    rw[Q0y,G0e,G0e]at a
    exact a.sp
   have p:=a.pos
   have hT:=g.len
   obtain⟨t,y,z⟩:=Z1r w e.1
   have A:bW (tp T i)=true:=by rw[a.bW,z];exact y
   obtain⟨w',j,C,E,F⟩:=o w (G1g ..) S T D _ i g a (Q8z e.2 l.w)
   have M:ws.length+1<m+1:=q
   have O:d.length+(ws.length+1)<=1000000:=u
   obtain⟨l',H,I,J,K⟩:=X1v g l ws j m (d++[w']) e.2 (λx L=>o x (G1l _ L)) F (by omega) (by rw[Q0g];omega)
   refine⟨w'::l',H,?_,by rw[zWs,zWs,E,J],K⟩
   show Q9q _ _ _ _ _ _ _=_
   rw[Q9q]
   try dsimp only
   rw[Q1r p.1 (by omega),G0a,Q2y,G0a,A,Q0b,C]
   simp only[Q0i]
   rw[Q3g (by simp only[G0i,G0z];omega),G0a,I,G0e]
   rfl
theorem Y3s{f:PWd}{ws:List Word}{r:List Atm}(l:OkV T D)(d:rWs ws=true)(F:ws≠[])(q:∀w∈ws,Rd f w)(u:Vw T D (ax [126]::(aSep ws [.sp] false++r)) i)(m:FoC r):∃c' j,F230 f S T D i=some (.inr (c',j))/\zC c'=zC ⟨16,0,[],ws,[],[]⟩/\Vw T D r j:=by
 obtain⟨⟨p,e⟩,ac,g⟩:=u.w
 have o:=u.pos
 have hT:=l.len
 have h1:=g.len
 have H:=Q8f (s:=[.sp]) ws false d
 cases ws with
 | nil=>exact absurd rfl F
 | cons w ws=>
   rw[rWs,G0d]at d
   have g:Vw T D (aW w++(aSep ws [.sp] false++r)) (i+1):=by
    rw[Q0y,G0e,G0e]at g
    exact g.sp
   obtain⟨w',j,z,A,a⟩:=q w (G1g ..) S T D _ (i+1) l g (Q8z d.2 m.w)
   have C:=a.pos
   have I:ws.length+1<=1000000:=by
    rw[G0i]at H
    omega
   cases ws with
   | nil=>
     rw[aSep]at a
     have a:Vw T D r j:=a
     refine⟨⟨16,p,[],[w'],[],[]⟩,j,?_,by simp only[zC,zCs,zWs,zRs,A],a⟩
     rw[F230,Q1r o.1 (by omega),G0a,wr1 o.1 (by omega),z]
     simp only[Q0i]
     rw[Q1r C.1 (by omega),G0a,Q2y,G0a,a.bW,m.nw,Q0a,e]
   | cons x ws=>
     rw[rWs,G0d]at d
     have a:Vw T D (aW x++(aSep ws [.sp] false++r)) j:=by
      rw[Q0y,G0e,G0e]at a
      exact a.sp
     obtain⟨t,J,K⟩:=Z1r x d.2.1
     have L:bW (tp T j)=true:=by rw[a.bW,K];exact J
     obtain⟨E,M,O,Q,U⟩:=q x (by simp) S T D _ j l a (Q8z d.2.2 m.w)
     rw[G0i]at I
     obtain⟨l',V,W,X,Y⟩:=X1v (S:=S) (t0:=tp T i) l m ws M BIG [w',E] d.2.2 (λy hy=>q y (by simp[hy])) U (by unfold BIG;omega) (by simp;omega)
     refine⟨⟨16,(tp T i).at_,[],w'::E::l',[],[]⟩,V,?_,by simp only[zC,zCs,zWs,zRs,A,Q,X],Y⟩
     rw[F230,Q1r o.1 (by omega),G0a,wr1 o.1 (by omega),z]
     simp only[Q0i]
     rw[Q1r C.1 (by omega),G0a,Q2y,G0a,L,Q0b,O]
     simp only
     rw[Q3g (by simp only[G0i,G0z];omega),G0a]
     exact W
end
section
variable {S:Str}{T:List Token}{D:List Str}{i:Int}
theorem X9e{d:Int}{e:Int->Option (Bool×Int)}(a:0<=i)(hb:i<=4000000000000000000):Z1d S T D d e i=(bif gapT (tp T i)then e (i+1)else some (decide (d<i),i)):=by
 rw[Z1d,Q1r a (by omega),G0a,Z4x _ a (by omega),G0a,wr1 a (by omega),gapT]
 cases decide ((tp T i).kind_=3)<;>cases isT (tp T i) [59]<;>rfl
theorem Y6c(a:0<=i)(hb:i<=4000000000)(h:gapT (tp T i)=false):F80 S T D i=some (false,i):=by
 show Z1d S T D i (iter (Z1d S T D i) (1180591620717411303421+1+1)) i=_
 rw[X9e a (by omega),h,Q0a,G0b (by omega)]
theorem K4i(a:0<=i)(hb:i<=4000000000)(h:gapT (tp T i)=true)(d:gapT (tp T (i+1))=false):F80 S T D i=some (true,i+1):=by
 show Z1d S T D i (iter (Z1d S T D i) (1180591620717411303421+1+1)) i=_
 rw[X9e a (by omega),h,Q0b]
 show Z1d S T D i (iter (Z1d S T D i) (1180591620717411303421+1)) (i+1)=_
 rw[X9e (by omega) (by omega),d,Q0a,G0h (by omega)]
theorem Y1h{t:Token}(h:bC t=true):gapT t=false:=by
 rw[gapT,G0b (bC_k h).1,G2k]
 cases a:isT t [59]with
 | false=>rfl
 | true=>
   rw[isT,G0d,G0l,G0l]at a
   rw[bC,bW,bR,isT,isT,isT,isT,isT,isT,isT,a.1,a.2]at h
   exact absurd h (by decide)
theorem J3j{ks:List Cmd}{r:List Atm}(h:rUp ks 4=true)(a:gapT (nt r)=false):gapT (nt (aIts ks++r))=false:=by
 cases ks with
 | nil=>rw[aIts];exact a
 | cons c ks=>
   rw[rUp,G0d,G0d]at h
   obtain⟨t,d,e⟩:=J0k c h.1.2
   rw[aIts,G0e,e]
   exact Y1h d
theorem K0i{g:PCm}{ks:List Cmd}{r:List Atm}(d:OkV T D)(l:RdL g true ks)(m:rUp ks 4=true)(a:Vw T D (.nl::(aIts ks++r)) i)(e:EndL true r):F80 S T D i=some (true,i+1)/\bW (tp T i)=false/\∃l' j,F47 g true S T D (i+1)=some (.inr (l',j))/\zCs l'=zCs ks/\Vw T D r j:=by
 have o:=a.pos
 have hT:=d.len
 obtain⟨-,p,f⟩:=a.nl
 refine⟨K4i o.1 (by omega) (by rw[a.gapT];rfl) (by rw[f.gapT];exact J3j m e.1),by rw[a.bW];rfl,?_⟩
 exact l S T D false r (i+1) d f e
theorem K0h{f:PWd}{g:PCm}{t0:Token}{ks:List Cmd}{r:List Atm}(e:OkV T D)(hk:RdL g true ks)(E:rUp ks 4=true)(F:EndL true r):∀ (ws:List Word) (i:Int) (m:Nat) (d:List Word),rWs ws=true->(∀w∈ws,Rd f w)->Vw T D (aSep ws [.sp] false++(.nl::(aIts ks++r))) i->ws.length<m->d.length+ws.length<=1000000->
 ∃l' o j,iter (Q9n S T D f g t0) m (i,d)=some (.inr (⟨18,t0.at_,[],d++l',[],o⟩,j))/\zWs l'=zWs ws/\zCs o=zCs ks/\Vw T D r j
 | _,_,0,_,_,_,_,h,_=>absurd h (G2q _)
 | [],i,m+1,d,l,p,a,H,I=>by
   rw[aSep]at a
   have a:Vw T D (.nl::(aIts ks++r)) i:=a
   have q:=a.pos
   have hT:=e.len
   obtain⟨u,y,l',j,z,A,C⟩:=K0i (S:=S) e hk E a F
   refine⟨[],l',j,?_,rfl,A,C⟩
   show Q9n _ _ _ _ _ _ _ _=_
   rw[Q9n]
   try dsimp only
   rw[Q1r q.1 (by omega),G0a,Q2y,G0a,y,Q0a,u,G0a]
   simp only[G1a]
   rw[z,G0n]
   rfl
 | w::ws,i,m+1,d,l,p,a,H,I=>by
   rw[rWs,G0d]at l
   have a:Vw T D (aW w++(aSep ws [.sp] false++(.nl::(aIts ks++r)))) i:=by
    rw[Q0y,G0e,G0e]at a
    exact a.sp
   have q:=a.pos
   have hT:=e.len
   obtain⟨t,J,K⟩:=Z1r w l.1
   have L:bW (tp T i)=true:=by rw[a.bW,K];exact J
   obtain⟨w',j,u,y,z⟩:=p w (G1g ..) S T D _ i e a (Q8z l.2 ⟨rfl,rfl⟩)
   have V:ws.length+1<m+1:=H
   have W:d.length+(ws.length+1)<=1000000:=I
   obtain⟨l',o,M,A,C,O,Q⟩:=K0h e hk E F ws j m (d++[w']) l.2 (λx U=>p x (G1l _ U)) z (by omega) (by rw[Q0g];omega)
   refine⟨w'::l',o,M,?_,by rw[zWs,zWs,y,C],O,Q⟩
   show Q9n _ _ _ _ _ _ _ _=_
   rw[Q9n]
   try dsimp only
   rw[Q1r q.1 (by omega),G0a,Q2y,G0a,L,Q0b,u]
   simp only[Q0i]
   rw[Q3g (by simp only[G0i,G0z];omega),G0a,A,G0e]
   rfl
theorem Y3o{f:PWd}{g:PCm}{ws:List Word}{ks:List Cmd}{r:List Atm}(l:OkV T D)(d:rWs ws=true)(J:ws≠[])(q:∀w∈ws,Rd f w)(hk:RdL g true ks)(z:rUp ks 4=true)(A:EndL true r)(C:Vw T D (ax [99,97,115,101]::(aSep ws [.sp] false++(.nl::(aIts ks++r)))) i):∃c' j,F258 g f S T D i=some (.inr (c',j))/\zC c'=zC ⟨18,0,[],ws,[],ks⟩/\Vw T D r j:=by
 obtain⟨⟨p,e⟩,ao,m⟩:=C.w
 have o:=C.pos
 have hT:=l.len
 have h1:=m.len
 have K:=Q8f (s:=[.sp]) ws false d
 cases ws with
 | nil=>exact absurd rfl J
 | cons w ws=>
   rw[rWs,G0d]at d
   have m:Vw T D (aW w++(aSep ws [.sp] false++(.nl::(aIts ks++r)))) (i+1):=by
    rw[Q0y,G0e,G0e]at m
    exact m.sp
   obtain⟨w',j,E,F,a⟩:=q w (G1g ..) S T D _ (i+1) l m (Q8z d.2 ⟨rfl,rfl⟩)
   have H:=a.pos
   have L:ws.length+1<=1000000:=by
    rw[G0i]at K
    omega
   cases ws with
   | nil=>
     rw[aSep]at a
     have a:Vw T D (.nl::(aIts ks++r)) j:=a
     obtain⟨M,O,l',u,Q,U,V⟩:=K0i (S:=S) l hk z a A
     refine⟨⟨18,p,[],[w'],[],l'⟩,u,?_,by simp only[zC,zCs,zWs,zRs,F,U],V⟩
     rw[F258,Q1r o.1 (by omega),G0a,wr1 o.1 (by omega),E]
     simp only[Q0i]
     rw[Q1r H.1 (by omega),G0a,Q2y,G0a,O,Q0a,M,G0a]
     simp only[G1a]
     rw[Q,e]
   | cons x ws=>
     rw[rWs,G0d]at d
     have a:Vw T D (aW x++(aSep ws [.sp] false++(.nl::(aIts ks++r)))) j:=by
      rw[Q0y,G0e,G0e]at a
      exact a.sp
     obtain⟨t,W,X⟩:=Z1r x d.2.1
     have Y:bW (tp T j)=true:=by rw[a.bW,X];exact W
     obtain⟨I,u,e4,e5,e6⟩:=q x (by simp) S T D _ j l a (Q8z d.2.2 ⟨rfl,rfl⟩)
     rw[G0i]at L
     obtain⟨l',ae,j3,e7,e8,e9,al⟩:=K0h (S:=S) (t0:=tp T i) l hk z A ws u BIG [w',I] d.2.2 (λy hy=>q y (by simp[hy])) e6 (by unfold BIG;omega) (by simp;omega)
     refine⟨⟨18,(tp T i).at_,[],w'::I::l',[],ae⟩,j3,?_,by simp only[zC,zCs,zWs,zRs,F,e5,e8,e9],al⟩
     rw[F258,Q1r o.1 (by omega),G0a,wr1 o.1 (by omega),E]
     simp only[Q0i]
     rw[Q1r H.1 (by omega),G0a,Q2y,G0a,Y,Q0b,e4]
     simp only
     rw[Q3g (by simp only[G0i,G0z];omega),G0a]
     exact e7
theorem Z0c{c:Cmd}(h:Q5p c=true):∃a ws ks,c=⟨18,a,[],ws,[],ks⟩/\ws≠[]/\rWs ws=true/\rUp ks 4=true:=by
 obtain⟨k,a,nm,ws,rs,ks⟩:=c
 rw[Q5p]at h
 simp only[G0d,G0l,G5c,G4j]at h
 obtain⟨⟨⟨⟨⟨rfl,rfl⟩,d⟩,f⟩,g⟩,l⟩:=h
 have:=G1q.1 d
 subst this
 exact⟨a,ws,ks,rfl,λe=>f (by rw[e];rfl),g,l⟩
theorem K0w(a:Int)(ws:List Word)(ks:List Cmd)(x:List Atm):aCa ⟨18,a,[],ws,[],ks⟩++x=ax [99,97,115,101]::(aSep ws [.sp] false++(.nl::(aIts ks++x))):=by
 rw[aCa]
 show ax [99,97,115,101]::((aSep ws [.sp] false++(.nl::aIts ks))++x)=_
 rw[G0e]
 rfl
theorem X9r{l:List Cmd}{r:List Atm}(h:Q3v l=true):EndL true (aCs l++.s [125]::r):=by
 cases l with
 | nil=>rw[aCs];exact⟨rfl,.inl rfl⟩
 | cons c l=>
   rw[Q3v,G0d]at h
   obtain⟨a,ws,ks,rfl,e,d,m⟩:=Z0c h.1
   rw[aCs,G0e,K0w]
   refine⟨rfl,.inr ⟨rfl,_,rfl,?_⟩⟩
   cases ws with
   | nil=>exact absurd rfl e
   | cons w ws=>
     rw[rWs,G0d]at d
     obtain⟨t,f,g⟩:=Z1r w d.1
     rw[Q0y,G0e,G0e]
     show isT (nt (aW w++_)) [61]=false
     rw[g]
     exact Z8y f (by decide)
theorem V2e{q:List Atm}:kwT (nt (ax [99,97,115,101]::q))=[99,97,115,101]:=by kernel_rfl
theorem X2m{f:PWd}{g:PCm}{t0:Token}{w0:Word}{r:List Atm}(o:OkV T D):∀ (l:List Cmd) (i:Int) (m:Nat) (e:List Cmd),Q3v l=true->(∀c∈l,(∀w∈c.words_,Rd f w)/\RdL g true c.kids_)->Vw T D (aCs l++.s [125]::r) i->l.length<m->e.length+l.length<=1000000->
 ∃l' j,iter (Z1v S T D g f t0 w0) m (i,e)=some (.inr (⟨17,t0.at_,[],[w0],[],e++l'⟩,j))/\zCs l'=zCs l/\Vw T D r j
 | _,_,0,_,_,_,_,h,_=>absurd h (G2q _)
 | [],i,m+1,e,p,t,d,u,y=>by
   rw[aCs]at d
   have d:Vw T D (.s [125]::r) i:=d
   have q:=d.pos
   have hT:=o.len
   obtain⟨-,V,z⟩:=d.s
   refine⟨[],i+1,?_,rfl,z⟩
   show Z1v _ _ _ _ _ _ _ _ _=_
   have hk:kwT (tp T i)=[]:=by rw[d.kwT];rfl
   rw[Z1v]
   try dsimp only
   rw[Q1r q.1 (by omega),G0a,Z9m (o.tl i).1,G0a,hk,G0b (by decide),Q0a,Z1f q.1 (by omega) (by rw[d.isT];rfl),G0n]
   rfl
 | c::l,i,m+1,e,p,t,d,u,y=>by
   rw[Q3v,G0d]at p
   obtain⟨a,ws,ks,rfl,A,C,E⟩:=Z0c p.1
   rw[aCs,G0e,K0w]at d
   have q:=d.pos
   have hT:=o.len
   obtain⟨F,H⟩:=t _ (G1g ..)
   obtain⟨c',j,I,J,K⟩:=Y3o (S:=S) o C A F H E (X9r p.2) d
   have W:l.length+1<m+1:=u
   have X:e.length+(l.length+1)<=1000000:=y
   obtain⟨l',L,M,O,Q⟩:=X2m o l j m (e++[c']) p.2 (λx U=>t x (G1l _ U)) K (by omega) (by rw[Q0g];omega)
   refine⟨c'::l',L,?_,by simp only[zCs,J,O,zC],Q⟩
   show Z1v _ _ _ _ _ _ _ _ _=_
   have hk:kwT (tp T i)=[99,97,115,101]:=by rw[d.kwT];exact V2e
   rw[Z1v]
   try dsimp only
   rw[Q1r q.1 (by omega),G0a,Z9m (o.tl i).1,G0a,hk,G0h rfl,Q0b,I]
   simp only[Q0i]
   rw[Q3g (by simp only[G0i,G0z];omega),G0a,M,G0e]
   rfl
theorem K0v:∀ (l:List Cmd),Q3v l=true->l.length<=(dcs (aCs l)).length
 | [],_=>G1t _
 | c::l,h=>by
   rw[Q3v,G0d]at h
   obtain⟨a,ws,ks,rfl,-⟩:=Z0c h.1
   have f:=K0v l h.2
   have e:(dcs (aCa ⟨18,a,[],ws,[],ks⟩++aCs l)).length=1+((dcs (aSep ws [.sp] false++(.nl::(aIts ks++aCs l)))).length):=by
    rw[K0w,dcs,G0g]
    rfl
   have d:(dcs (aSep ws [.sp] false++(.nl::(aIts ks++aCs l)))).length=(dcs (aSep ws [.sp] false)).length+(1+((dcs (aIts ks)).length+(dcs (aCs l)).length)):=by
    rw[Q4a,dcs,Q4a,G0g,G0g,G0g]
    rfl
   rw[aCs,e,d,G0i]
   omega
theorem Y3v{f:PWd}{g:PCm}{w:Word}{l:List Cmd}{r:List Atm}(d:OkV T D)(y:Rd f w)(m:Q3v l=true)(z:∀c∈l,(∀w∈c.words_,Rd f w)/\RdL g true c.kids_)(t:Vw T D (ax [115,119,105,116,99,104]::.sp::(aW w++(.sp::.s [123]::.nl::(aCs l++.s [125]::r)))) i):∃c' j,F228 g f S T D i=some (.inr (c',j))/\zC c'=zC ⟨17,0,[],[w],[],l⟩/\Vw T D r j:=by
 obtain⟨⟨p,e⟩,L,o⟩:=t.w
 have o:=o.sp
 have u:=t.pos
 have hT:=d.len
 obtain⟨w',j,A,C,a⟩:=y S T D _ (i+1) d o ⟨rfl,rfl⟩
 have a:=a.sp
 have E:=a.pos
 obtain⟨-,M,x⟩:=a.s
 obtain⟨-,O,q⟩:=x.nl
 have F:=K4i (S:=S) (T:=T) (D:=D) (i:=j+1) (by omega) (by omega) (by rw[x.gapT];rfl) (by rw[q.gapT];exact(X9r m).1)
 have Q:=q.len
 have U:=K0v l m
 obtain⟨l',H,I,J,K⟩:=X2m (S:=S) (t0:=tp T i) (w0:=w') d l _ BIG [] m z q (by unfold BIG;omega) (by simp;omega)
 refine⟨⟨17,(tp T i).at_,[],[w'],[],l'⟩,H,?_,by simp only[zC,zCs,zWs,zRs,C,J],K⟩
 rw[F228,Q1r u.1 (by omega),G0a,wr1 u.1 (by omega),A]
 simp only[Q0i]
 rw[Z1f E.1 (by omega) (by rw[a.isT];rfl)]
 simp only
 rw[F,G0a]
 exact I
end
structure FoP(r:List Atm):Prop extends FoC r where
 p:isT (nt r) [124]=false
abbrev bar:List Atm:=[.sp,.s [124],.sp]
theorem K0u(c:Cmd)(l:List Cmd)(r:List Atm):aJ (c::l) bar false++r=.sp::.s [124]::.sp::(aC c++(aJ l bar false++r)):=by
 rw[aJ,Q0a,G0e,G0e]
 rfl
theorem J8u{l:List Cmd}{r:List Atm}(h:FoC r):FoC (aJ l bar false++r):=by
 cases l with
 | nil=>rw[aJ];exact h
 | cons c l=>rw[K0u];exact⟨⟨rfl,rfl⟩,rfl,rfl⟩
section
variable {S:Str}{T:List Token}{D:List Str}{i:Int}
theorem X7u{g:PCm}{ic:Bool}{r:List Atm}(f:OkV T D)(q:FoP r):∀ (l:List Cmd) (i:Int) (m:Nat) (e:List Cmd),rUp l 1=true->(∀c∈l,RdK g c)->Vw T D (aJ l bar false++r) i->l.length<m->2<=e.length+l.length->e.length+l.length<=1000000->
 ∃l' j a,iter (Q9t S T D g ic) m (i,e)=some (.inr (⟨3,a,[],[],[],e++l'⟩,j))/\zCs l'=zCs l/\Vw T D r j
 | _,_,0,_,_,_,_,h,_,_=>absurd h (G2q _)
 | [],i,m+1,e,o,t,d,C,y,E=>by
   rw[aJ]at d
   have d:Vw T D r i:=d
   have z:=d.pos
   have hT:=f.len
   have F:2<=e.length:=y
   have A:∃u,lidx e 0=some u:=by
    match e,F with
    | u::_,_=>exact⟨u,rfl⟩
   obtain⟨u,H⟩:=A
   refine⟨[],i,u.at_,?_,rfl,d⟩
   show Q9t _ _ _ _ _ _ _=_
   rw[Q9t]
   try dsimp only
   rw[Q3i _ z.1 (by omega),G0a,d.isT,q.p]
   try dsimp only
   rw[Q0a,Q0a,G0b (by omega),Q0a,H,G0a,G0n]
 | c::l,i,m+1,e,o,t,d,C,y,E=>by
   rw[rUp,G0d,G0d]at o
   rw[K0u]at d
   have d:=d.sp
   have z:=d.pos
   have hT:=f.len
   obtain⟨-,U,p⟩:=d.s
   have p:=p.sp
   obtain⟨c',j,I,J,K⟩:=t c (G1g ..) S T D ic _ (i+1) f p (J8u q.toFoC)
   have V:l.length+1<m+1:=C
   have W:e.length+(l.length+1)<=1000000:=E
   have F:2<=e.length+(l.length+1):=y
   obtain⟨l',L,a,M,O,Q⟩:=X7u f q l j m (e++[c']) o.2 (λx A=>t x (G1l _ A)) K (by omega) (by rw[Q0g];omega) (by rw[Q0g];omega)
   refine⟨c'::l',L,a,?_,by rw[zCs,zCs,J,O],Q⟩
   show Q9t _ _ _ _ _ _ _=_
   rw[Q9t]
   try dsimp only
   have hb:isT (tp T i) [124]=true:=by rw[d.isT];rfl
   rw[Q3i _ z.1 (by omega),G0a,hb]
   try dsimp only
   rw[Q0b,Q0b,Q4k (by omega) (by omega) (Z9d p o.1.2).2,G0a,I]
   simp only[Q0i]
   rw[Q3g (by simp only[G0i,G0z];omega),G0a,M,G0e]
   rfl
theorem Y4g{g:PCm}{ic:Bool}{c d:Cmd}{l:List Cmd}{r:List Atm}(f:OkV T D)(o:FoP r)(p:rUp (c::d::l) 1=true)(q:∀x∈c::d::l,RdK g x)(y:(d::l).length<=999999)(t:Vw T D (aC c++(aJ (d::l) bar false++r)) i):∃c' j,F167 g ic S T D i=some (.inr (c',j))/\zC c'=zC ⟨3,0,[],[],[],c::d::l⟩/\Vw T D r j:=by
 have Q:=t.pos
 have hT:=f.len
 obtain⟨c',j,z,A,e⟩:=q c (by simp) S T D ic _ i f t (J8u o.toFoC)
 rw[rUp,G0d,rUp,G0d,G0d,G0d]at p
 rw[K0u]at e
 have e:=e.sp
 have C:=e.pos
 obtain⟨-,U,m⟩:=e.s
 have m:=m.sp
 obtain⟨u,E,F,H,I⟩:=q d (by simp) S T D ic _ (j+1) f m (J8u o.toFoC)
 rw[G0i]at y
 obtain⟨l',J,a,K,L,M⟩:=X7u (S:=S) (ic:=ic) f o l E BIG [c',u] p.2.2 (λx O=>q x (by simp[O])) I (by unfold BIG;omega) (by simp) (by simp;omega)
 refine⟨⟨3,a,[],[],[],c'::u::l'⟩,J,?_,by simp only[zC,zCs,zWs,zRs,A,H,L],M⟩
 have hb:isT (tp T j) [124]=true:=by rw[e.isT];rfl
 rw[F167,z]
 simp only[Q0i]
 rw[Q3i _ C.1 (by omega),G0a,hb]
 simp only[G1a]
 rw[Q4k (by omega) (by omega) (Z9d m p.2.1.2).2,G0a,F]
 simp only
 rw[Q3g (by simp only[G0i,G0z];omega),G0a]
 exact K
theorem Y4h{g:PCm}{ic:Bool}{c:Cmd}{r:List Atm}(d:OkV T D)(e:FoP r)(f:RdK g c)(l:Vw T D (aC c++r) i):∃c' j,F167 g ic S T D i=some (.inr (c',j))/\zC c'=zC c/\Vw T D r j:=by
 have hT:=d.len
 obtain⟨c',j,m,o,a⟩:=f S T D ic _ i d l e.toFoC
 have p:=a.pos
 refine⟨c',j,?_,o,a⟩
 rw[F167,m]
 simp only[Q0i]
 rw[Q3i _ p.1 (by omega),G0a,a.isT,e.p]
 rfl
end
theorem K0x{c:Cmd}(h:rC c=true):1<=(dcs (aC c)).length:=by
 obtain⟨t,d,f⟩:=J0k c h
 cases e:dcs (aC c)with
 | nil=>
   have:=J3g (aC c) [] e
   rw[f]at this
   rw[this]at d
   cases d
 | cons a r=>simp
theorem K8b{s:List Atm}:∀ (l:List Cmd) (m:Int) (b:Bool),rUp l m=true->l.length<=(dcs (aJ l s b)).length
 | [],_,_,_=>G1t _
 | c::l,m,b,h=>by
   rw[rUp,G0d,G0d]at h
   have a:=K0x h.1.2
   have d:=K8b (s:=s) l m false h.2
   rw[aJ,Q4a,Q4a,G0g,G0g,G0i]
   omega
def RdP(g:PCm)(c:Cmd):Prop:=∀ (S:Str) (T:List Token) (D:List Str) (ic:Bool) (r:List Atm) (i:Int),OkV T D->Vw T D (aC c++r) i->FoP r->∃c' j,F167 g ic S T D i=some (.inr (c',j))/\zC c'=zC c/\Vw T D r j
theorem Y1v{g:PCm}{c:Cmd}(u:rC c=true)(hk:c.kind_≠3->RdK g c)(hs:c.kind_=3->∀x∈c.kids_,RdK g x):RdP g c:=by
 intro S T D ic r i o f p
 by_cases q:c.kind_=3
 ·obtain⟨k,a,nm,ws,rs,ks⟩:=c
  have y:k=3:=q
  subst y
  have hs:=hs rfl
  rcases Q4t u with⟨e,-⟩|⟨e,-⟩|⟨e|e|e,-⟩|⟨e,-⟩|⟨e|e,-⟩|⟨e|e,-⟩|⟨e,-⟩|⟨e,-⟩|⟨e,-⟩|⟨-,rfl,rfl,rfl,t,m⟩|⟨e,-⟩|⟨e,-⟩<;>try exact absurd e (by decide)
  match ks,t,m,hs with
  | c::d::l,t,m,hs=>
  have z:aC ⟨3,a,[],[],[],c::d::l⟩=aJ (c::d::l) bar true:=by rw[aC];rfl
  rw[z]at f
  have E:=f.len
  have A:=K8b (s:=bar) (c::d::l) 1 true m
  have hT:=o.len
  rw[aJ,Q0b,G0t,G0e]at f
  have F:=f.len
  have C:(d::l).length<=999999:=by
   rw[G0i]at A
   omega
  exact Y4g o p m hs C f
 exact Y4h o p (hk q) f
def Bnd(g:PCm)(N:Nat):Prop:=∀x:Cmd,rC x=true->lvl 1 x.kind_=true->(aC x).length<=N->RdK g x
def BndW(f:PWd)(N:Nat):Prop:=∀w:Word,rW w=true->(aW w).length<=N->Rd f w
theorem Y5w{k:Int}(h:lvl 2 k=true)(a:k≠3):lvl 1 k=true:=by rw[<-V6b a];exact h
theorem Y5v{k:Int}(h:lvl 3 k=true)(a:k≠5)(d:k≠6):lvl 2 k=true:=by
 rw[<-V6a (by rw[V1z a,V1z d];rfl)]
 exact h
theorem Y5u{k:Int}(h:lvl 4 k=true)(a:k≠14):lvl 3 k=true:=by rw[<-V5z a];exact h
theorem K9r{m:Int}{l:List Cmd}{x:Cmd}(h:rUp l m=true)(a:x∈l):lvl m x.kind_=true/\rC x=true:=by
 rw[Q3m]at h
 have:=G0p.1 h x a
 rwa [G0d]at this
theorem Y1q{s:List Atm}{x:Cmd}:∀ {l:List Cmd} {b:Bool},x∈l->(aC x).length<=(aJ l s b).length
 | c::l,b,h=>by
   rw[aJ,G0g,G0g]
   rcases G1j.1 h with rfl|h
   ·omega
   have:=Y1q (s:=s) (b:=false) h
   omega
theorem V4w{g:PCm}{N:Nat}(hb:Bnd g N){c:Cmd}(d:rC c=true)(o:lvl 2 c.kind_=true)(f:(aC c).length<=N):RdP g c:=by
 refine Y1v d (λl=>hb c d (Y5w o l) f) (λl x m=>?_)
 obtain⟨k,a,nm,ws,rs,ks⟩:=c
 have p:k=3:=l
 subst p
 rcases Q4t d with⟨e,-⟩|⟨e,-⟩|⟨e|e|e,-⟩|⟨e,-⟩|⟨e|e,-⟩|⟨e|e,-⟩|⟨e,-⟩|⟨e,-⟩|⟨e,-⟩|⟨-,rfl,rfl,rfl,z,q⟩|⟨e,-⟩|⟨e,-⟩<;>try exact absurd e (by decide)
 have t:aC ⟨3,a,[],[],[],ks⟩=aJ ks bar true:=by rw[aC];rfl
 obtain⟨u,y⟩:=K9r q m
 rw[t]at f
 exact hb x y u (G3c (Y1q m) f)
structure FoI(r:List Atm):Prop extends FoP r where
 a:isT (nt r) [38,38]=false
 o:isT (nt r) [124,124]=false
theorem Y1s{k a:Int}{y nm:Str}{ws:List Word}{rs:List Redir}{c d:Cmd}(h:(k=5/\y=[38,38])\/(k=6/\y=[124,124])):aC ⟨k,a,nm,ws,rs,[c,d]⟩=aC c++(.sp::.s y::.sp::aC d):=by
 have e:aC ⟨k,a,nm,ws,rs,[c,d]⟩=aJ [c,d] [.sp,.s y,.sp] true:=by
  rcases h with⟨rfl,rfl⟩|⟨rfl,rfl⟩<;>(rw[aC];rfl)
 rw[e,aJ,Q0b,G0t,aJ,Q0a,aJ,G0n]
 rfl
section
variable {S:Str}{T:List Token}{D:List Str}{i:Int}
theorem K5f{g:PCm}{N:Nat}{ic:Bool}(x:OkV T D)(hb:Bnd g N):∀ (n:Nat) (c:Cmd) (r:List Atm) (i:Int),(aC c).length<=n->rC c=true->lvl 3 c.kind_=true->(aC c).length<=N->Vw T D (aC c++r) i->FoP r->
 ∃p t k c' j,F167 g ic S T D i=some (.inr (p,t))/\c'.at_=p.at_/\zC c'=zC c/\Vw T D r j/\k+1<=(dcs (aC c)).length/\
  ∀m,iter (Q6d S T D g ic p) (m+k) (t,p.kind_,p.name_,p.words_,p.redirs_,p.kids_)=iter (Q6d S T D g ic p) m (j,c'.kind_,c'.name_,c'.words_,c'.redirs_,c'.kids_):=by
 intro n
 induction n with
 | zero=>
   intro c r i z l
   have h1:=(Q3x c l).2.2
   exact absurd (G1q.1 (G8z.1 z)) h1
 | succ n ih=>
   intro c r i z l h3 V o W
   by_cases A:c.kind_=5\/c.kind_=6
   ·obtain⟨k,at_,nm,ws,rs,ks⟩:=c
    have X:k=5\/k=6:=A
    have hx:nm=[]/\rs=[]/\ws=[]/\ks.length=2/\rAnd ks=true:=by
     rcases X with rfl|rfl
     ·rcases Q4t l with⟨e,-⟩|⟨e,-⟩|⟨e|e|e,-⟩|⟨e,-⟩|⟨e|e,-⟩|⟨-,h⟩|⟨e,-⟩|⟨e,-⟩|⟨e,-⟩|⟨e,-⟩|⟨e,-⟩|⟨e,-⟩<;>first|exact h|exact absurd e (by decide)
     rcases Q4t l with⟨e,-⟩|⟨e,-⟩|⟨e|e|e,-⟩|⟨e,-⟩|⟨e|e,-⟩|⟨-,h⟩|⟨e,-⟩|⟨e,-⟩|⟨e,-⟩|⟨e,-⟩|⟨e,-⟩|⟨e,-⟩<;>first|exact h|exact absurd e (by decide)
    obtain⟨rfl,rfl,rfl,h2,Y⟩:=hx
    obtain⟨c,d,rfl⟩:=len2 h2
    rw[rAnd,G0d,G0d]at Y
    obtain⟨⟨a1,a2⟩,a3⟩:=Y
    obtain⟨d1,C⟩:=Q8s a3
    obtain⟨y,E⟩:∃y:Str,(k=5/\y=[38,38])\/(k=6/\y=[124,124]):=by
     rcases X with h|h
     ·exact⟨_,.inl ⟨h,rfl⟩⟩
     exact⟨_,.inr ⟨h,rfl⟩⟩
    have F:=Y1s (a:=at_) (nm:=[]) (ws:=[]) (rs:=[]) (c:=c) (d:=d) E
    rw[F,G0g,G0i,G0i,G0i]at z V
    rw[F,G0e]at o
    have o:Vw T D (aC c++(.sp::.s y::.sp::(aC d++r))) i:=o
    have av:FoP (.sp::.s y::.sp::(aC d++r)):=by
     rcases E with⟨-,rfl⟩|⟨-,rfl⟩<;>exact⟨⟨⟨rfl,rfl⟩,rfl,rfl⟩,rfl⟩
    obtain⟨p,t,q,c',j,H,e2,I,f,e5,e6⟩:=ih c _ i (by omega) a2 a1 (by omega) o av
    have f:=f.sp
    have hj:=f.pos
    have hT:=x.len
    obtain⟨-,aG,u⟩:=f.s
    have u:=u.sp
    have hd:=Z9d u C
    obtain⟨d',j2,g1,g2,g3⟩:=V4w hb C d1 (by omega) S T D ic r (j+1) x u W
    refine⟨p,t,q+1,⟨k,p.at_,[],[],[],[⟨c'.kind_,p.at_,c'.name_,c'.words_,c'.redirs_,c'.kids_⟩,d']⟩,j2,H,rfl,?_,g3,?_,λm=>?_⟩
    ·simp only[zC,zCs,zWs,zRs,g2,<-I,K8v c']
    ·have aH:=K0x C
     rw[F,Q4a,G0g]
     show q+1+1<=(dcs (aC c)).length+((dcs (aC d)).length+1)
     omega
    rw[show m+(q+1)=(m+1)+q by omega,e6 (m+1)]
    have af:∀J K L M O Q U,Z4v S T D g ic J K p L M O Q (U,j+1)=J (j2,U,[],[],[],[Cmd.mk K p.at_ L M O Q,d']):=by
     intro J K L M O Q U
     rw[Z4v,Q4k (by omega) (by omega) hd.2,G0a,g1]
     rfl
    show Q6d S T D g ic p (iter (Q6d S T D g ic p) m) _=_
    rw[Q6d]
    dsimp only
    rw[Q3i _ hj.1 (by omega),G0a]
    rcases E with⟨rfl,rfl⟩|⟨rfl,rfl⟩
    ·have hs:isT (tp T j) [38,38]=true:=by rw[f.isT];rfl
     rw[hs]
     dsimp only
     rw[Q0b,Q0b,af]
    have hs:isT (tp T j) [38,38]=false:=by rw[f.isT];rfl
    have aB:isT (tp T j) [124,124]=true:=by rw[f.isT];rfl
    rw[hs]
    dsimp only
    rw[Q0a,Q0a,Q3i _ hj.1 (by omega),G0a,aB]
    dsimp only
    rw[Q0b,Q0b,af]
   have h5:c.kind_≠5:=λe=>A (.inl e)
   have h6:c.kind_≠6:=λe=>A (.inr e)
   obtain⟨c',j,H,e2,I⟩:=V4w hb l (Y5v h3 h5 h6) V S T D ic r i x o W
   exact⟨c',j,0,c',j,H,rfl,e2,I,K0x l,λm=>rfl⟩
theorem K8s{g:PCm}{N:Nat}{ic:Bool}{c:Cmd}{r:List Atm}(e:OkV T D)(hb:Bnd g N)(o:rC c=true)(q:lvl 3 c.kind_=true)(t:(aC c).length<=N)(f:Vw T D (aC c++r) i)(d:FoI r):∃c' j,F131 g ic S T D i=some (.inr (c',j))/\zC c'=zC c/\Vw T D r j:=by
 obtain⟨p,C,k,c',j,u,x,y,a,E,z⟩:=K5f (S:=S) (ic:=ic) e hb _ c r i (G0r _) o q t f d.toFoP
 have F:=f.len
 have hT:=e.len
 have l:=a.pos
 refine⟨c',j,?_,y,a⟩
 obtain⟨m,A⟩:∃m,BIG=(m+1)+k:=⟨BIG-k-1,by unfold BIG;omega⟩
 rw[F131,u]
 simp only[Q0i]
 rw[A,z (m+1)]
 show Q6d S T D g ic p (iter (Q6d S T D g ic p) m) _=_
 rw[Q6d]
 dsimp only
 rw[Q3i _ l.1 (by omega),G0a,a.isT,d.a]
 dsimp only
 rw[Q0a,Q0a,Q3i _ l.1 (by omega),G0a,a.isT,d.o]
 dsimp only
 rw[Q0a,Q0a,<-x]
 obtain⟨_,_,_,_,_,_⟩:=c'
 rfl
theorem Y0x{x:List Atm}:FoI (.nl::x):=⟨⟨⟨⟨rfl,rfl⟩,rfl,rfl⟩,rfl⟩,rfl,rfl⟩
theorem V1s{x:List Atm}:FoI (.sp::.s [38]::x):=⟨⟨⟨⟨rfl,rfl⟩,rfl,rfl⟩,rfl⟩,rfl,rfl⟩
theorem Y9p{g:PCm}{N:Nat}{ic:Bool}{c:Cmd}{x:List Atm}(l:OkV T D)(hb:Bnd g N)(q:rC c=true)(A:lvl 4 c.kind_=true)(t:(aC c).length<=N)(f:Vw T D (aC c++.nl::x) i):∃c' j,F82 g ic S T D i=some (.inr (c',j))/\zC c'=zC c/\Vw T D (.nl::x) j:=by
 have hT:=l.len
 by_cases u:c.kind_=14
 ·obtain⟨k,at_,nm,ws,rs,ks⟩:=c
  have C:k=14:=u
  subst C
  rcases Q4t q with⟨e,-⟩|⟨e,-⟩|⟨e|e|e,-⟩|⟨-,rfl,rfl,rfl,E,F⟩|⟨e|e,-⟩|⟨e|e,-⟩|⟨e,-⟩|⟨e,-⟩|⟨e,-⟩|⟨e,-⟩|⟨e,-⟩|⟨e,-⟩<;>try exact absurd e (by decide)
  obtain⟨d,rfl⟩:=len1 E
  obtain⟨H,I⟩:=Q8s F
  have y:aC ⟨14,at_,[],[],[],[d]⟩=aC d++[.sp,.s [38]]:=by
   rw[aC]
   show aJ [d] [] true++[.sp,.s [38]]=_
   rw[Q4r]
  rw[y,G0g]at t
  rw[y,G0e]at f
  have f:Vw T D (aC d++(.sp::.s [38]::.nl::x)) i:=f
  obtain⟨z,j,m,o,a⟩:=K8s (S:=S) (ic:=ic) l hb I H (by omega) f V1s
  have a:=a.sp
  have p:=a.pos
  obtain⟨-,K,J⟩:=a.s
  refine⟨⟨14,z.at_,[],[],[],[z]⟩,j+1,?_,by simp only[zC,zCs,zWs,zRs,o],J⟩
  have hs:isT (tp T j) [38]=true:=by rw[a.isT];rfl
  rw[F82,m]
  simp only[Q0i]
  rw[Q3i _ p.1 (by omega),G0a,hs]
  rfl
 obtain⟨c',j,m,o,a⟩:=K8s (S:=S) (ic:=ic) l hb q (Y5u A u) t f Y0x
 have p:=a.pos
 refine⟨c',j,?_,o,a⟩
 have hs:isT (tp T j) [38]=false:=by rw[a.isT];rfl
 rw[F82,m]
 simp only[Q0i]
 rw[Q3i _ p.1 (by omega),G0a,hs]
 rfl
end
theorem X8m{t:Token}{s:Str}(h:t.kind_≠1):keyT t s=false:=by
 rw[keyT,G0b h]
 rfl
theorem V4s{w:Word}{s:Str}(e:rW w=true)(f:w.kind_≠4)(a:J7p w=false)(hs:keyB s=true)(x:List Atm):keyT (nt (aW w++x)) s=false:=by
 obtain⟨k,t,q,ws,cs⟩:=w
 rcases Q6x e with⟨rfl,-⟩|⟨rfl|rfl,-⟩|⟨rfl,-⟩|⟨rfl,-⟩|⟨rfl,-⟩|⟨rfl,-⟩
 ·rw[aW]
  show keyT ⟨1,0,t,q⟩ s=false
  have a:((true&&keyB t)&&!Q2k q)=false:=a
  show((true&&decide (t=s))&&!Q2k q)=false
  by_cases d:t=s
  ·rw[d,hs]at a
   rw[G0h d]
   exact a
  rw[G0b d]
  rfl
 ·rw[aW];rfl
 ·rw[aW];rfl
 ·rw[aW];rfl
 ·rw[aW];rfl
 ·rw[aW];rfl
 exact absurd rfl f
theorem X8o{w:Word}(f:rW w=true)(g:w.kind_=4):∃u us,w.words_=u::us/\rW u=true/\u.kind_≠4/\∀x,aW w++x=aW u++(aSep us [.s [94]] false++x):=by
 obtain⟨k,t,q,ws,cs⟩:=w
 have l:k=4:=g
 subst l
 rcases Q6x f with⟨e,-⟩|⟨e|e,-⟩|⟨e,-⟩|⟨e,-⟩|⟨e,-⟩|⟨-,hk,rfl,rfl,d,rfl,a⟩<;>try exact absurd e (by decide)
 match ws,d,a,hk with
 | u::us,d,a,hk=>
   rw[rWs,G0d]at a
   have m:u.kind_≠4:=by
    have:=G0p.1 hk u (G1g ..)
    simpa using this
   have e:aW ⟨4,[],[],u::us,[]⟩=aW u++aSep us [.s [94]] false:=by
    rw[aW]
    exact Q3a _ _ _
   exact⟨u,us,rfl,a.1,m,λx=>by rw[e,G0e]⟩
theorem V6m{w:Word}{r:List Word}{s:Str}(e:rW w=true)(a:Q5u (w::r)=false)(hs:keyB s=true)(x:List Atm):keyT (nt (aW w++x)) s=false:=by
 by_cases d:w.kind_=4
 ·obtain⟨u,us,f,g,l,m⟩:=X8o e d
  rw[Q5u,G0h d,Q0b,f]at a
  rw[m]
  exact V4s g l a hs _
 rw[Q5u,V1z d,Q0a]at a
 exact V4s e d a hs x
section
variable {S:Str}{T:List Token}{D:List Str}{i:Int}
theorem Y1l{w:Word}{x:List Atm}(d:rW w=true)(e:w.kind_≠4)(a:Vw T D (aW w++x) i)(f:isT (nt x) [61]=false):asg T i=false:=by
 obtain⟨k,t,q,ws,cs⟩:=w
 rcases Q6x d with⟨rfl,-⟩|⟨rfl|rfl,-⟩|⟨rfl,-⟩|⟨rfl,-⟩|⟨rfl,-⟩|⟨rfl,-⟩
 ·have a:Vw T D (.w t q::x) i:=by rw[aW]at a;exact a
  obtain⟨-,-,g⟩:=a.w
  rw[asg,g.isT,f,G2s]
 ·rw[asg,a.plT,aW];rfl
 ·rw[asg,a.plT,aW];rfl
 ·rw[asg,a.plT,aW];rfl
 ·rw[asg,a.plT,aW];rfl
 ·rw[asg,a.plT,aW];rfl
 exact absurd rfl e
theorem Y8o{w:Word}{x:List Atm}(d:rW w=true)(a:Vw T D (aW w++x) i)(e:isT (nt x) [61]=false):asg T i=false:=by
 by_cases f:w.kind_=4
 ·obtain⟨u,us,-,g,l,m⟩:=X8o d f
  rw[m]at a
  refine Y1l g l a ?_
  cases us with
  | nil=>rw[aSep];exact e
  | cons v us=>rw[Q0y];rfl
 exact Y1l d f a e
theorem K7u:∀ (n:Nat) (c:Cmd) (x:List Atm),(aC c).length<=n->rC c=true->Vw T D (aC c++x) i->csT T i=false:=by
 intro n
 induction n with
 | zero=>
   intro c x p q
   exact absurd (G1q.1 (G8z.1 p)) (Q3x c q).2.2
 | succ n u=>
   intro c x p q f
   obtain⟨k,a,nm,ws,rs,ks⟩:=c
   rcases Q4t q with⟨rfl,-,m,-,g,z,o⟩|⟨rfl,-⟩|⟨rfl|rfl|rfl,-⟩|⟨rfl,-,-,-,m,g⟩|⟨rfl|rfl,-⟩|⟨A,-,-,-,m,g⟩|⟨rfl,-⟩|⟨rfl,-⟩|⟨rfl,-⟩|⟨rfl,-,-,-,m,g⟩|⟨rfl,-⟩|⟨rfl,-⟩
   ·have e:aC ⟨1,a,nm,ws,rs,ks⟩=aSep ws [.sp] true++aRs rs (decide (ws=[])):=by rw[aC];rfl
    rw[e]at f
    cases ws with
    | nil=>
      cases rs with
      | nil=>simp at m
      | cons d r=>
        rw[rRs,G0d]at z
        obtain⟨t,-,C,-,-,-,E⟩:=J6t z.1
        rw[aSep,G0t,Q8g,G0h rfl,Q0b,G0t,G0e]at f
        rw[csT,f.keyT,E,X8m (X2q C)]
        rfl
    | cons w r=>
      rw[rWs,G0d]at g
      have o:Q5u (w::r)=false:=by
       rcases o with o|o
       ·cases o
       exact o
      rw[Q3a,G0e,G0e]at f
      rw[csT,f.keyT,V6m g.1 o (by kernel_rfl)]
      rfl
   ·have f:Vw T D (ax nm::.s [61]::((aSep ws [.sp] true++((bif decide (ks.length=0)then[]else[.sp])++aJ ks [] true))++x)) i:=by
     rw[aC]at f
     exact f
    obtain⟨-,-,F⟩:=f.w
    have hs:isT (tp T (i+1)) [61]=true:=by rw[F.isT];rfl
    rw[csT,hs,G0m,G2s]
   ·rw[csT,f.keyT,aC];rfl
   ·rw[csT,f.keyT,aC];rfl
   ·rw[csT,f.keyT,aC];rfl
   ·obtain⟨d,rfl⟩:=len1 m
    have e:aC ⟨14,a,nm,ws,rs,[d]⟩=aC d++[.sp,.s [38]]:=by
     rw[aC]
     show aJ [d] [] true++[.sp,.s [38]]=_
     rw[Q4r]
    rw[e,G0g,G0i]at p
    rw[e,G0e]at f
    exact u d _ (by omega) (Q8s g).2 f
   ·rw[csT,f.keyT,aC];rfl
   ·rw[csT,f.keyT,aC];rfl
   ·obtain⟨c,d,rfl⟩:=len2 m
    obtain⟨y,H⟩:∃y:Str,(k=5/\y=[38,38])\/(k=6/\y=[124,124]):=by
     rcases A with h|h
     ·exact⟨_,.inl ⟨h,rfl⟩⟩
     exact⟨_,.inr ⟨h,rfl⟩⟩
    have e:=Y1s (a:=a) (nm:=nm) (ws:=ws) (rs:=rs) (c:=c) (d:=d) H
    rw[rAnd,G0d,G0d]at g
    rw[e,G0g,G0i]at p
    rw[e,G0e]at f
    exact u c _ (by omega) g.1.2 f
   ·rw[csT,f.keyT,aC];rfl
   ·rw[csT,f.keyT,aC];rfl
   ·rw[csT,f.keyT,aC];rfl
   ·match ks,m,g with
    | c::d::l,m,g=>
    rw[rUp,G0d,G0d]at g
    have e:aC ⟨3,a,nm,ws,rs,c::d::l⟩=aC c++aJ (d::l) bar false:=by
     rw[aC]
     show aJ (c::d::l) bar true=_
     rw[aJ,Q0b,G0t]
    have I:(aJ (d::l) bar false).length=3+(aC d++aJ l bar false).length:=by
     rw[aJ,Q0a,G0g]
     rfl
    rw[e,G0g,I]at p
    rw[e,G0e]at f
    exact u c _ (by omega) g.1.2 f
   ·rw[csT,f.keyT,aC];rfl
   rw[csT,f.keyT,aC];rfl
theorem X2u:∀ (l:List Cmd),l.length<=(dcs (aIts l)).length
 | []=>G1t _
 | c::l=>by
   have a:=X2u l
   have e:(dcs (aIts (c::l))).length=(dcs (aC c)).length+(1+(dcs (aIts l)).length):=by
    rw[aIts,Q4a,dcs,G0g,G0g]
    rfl
   rw[e,G0i]
   omega
theorem K7j{g:PCm}{N:Nat}{ic:Bool}{r:List Atm}(f:OkV T D)(hb:Bnd g N)(o:EndL ic r):∀ (cs:List Cmd) (i:Int) (m:Nat) (e:List Cmd),rUp cs 4=true->(aIts cs).length<=N->Vw T D (aIts cs++r) i->cs.length<m->e.length+cs.length<=1000000->
 ∃l' j,iter (Z9o ic S T D g) m (i,e)=some (.inr (e++l',j))/\zCs l'=zCs cs/\Vw T D r j
 | _,_,0,_,_,_,_,h,_=>absurd h (G2q _)
 | [],i,m+1,e,d,x,a,y,z=>by
   rw[aIts]at a
   have a:Vw T D r i:=a
   have p:=a.pos
   have hT:=f.len
   refine⟨[],i,?_,rfl,a⟩
   have t:(!(ic&&csT T i)&&bC (tp T i))=false:=by
    rcases o.2 with h|⟨rfl,q,rfl,h⟩
    ·rw[a.bC,h,G2s]
    obtain⟨-,-,l⟩:=a.w
    have hk:keyT (tp T i) [99,97,115,101]=true:=by rw[a.keyT];kernel_rfl
    rw[csT,hk,l.isT,h]
    rfl
   show Z9o _ _ _ _ _ _ _=_
   rw[Z9o]
   try dsimp only
   rw[Z8x _ f.toOkT p.1 (by omega),G0a,t,Q0a,G0n]
 | c::cs,i,m+1,e,d,x,a,y,z=>by
   rw[rUp,G0d,G0d]at d
   rw[aIts,G0g,G0i]at x
   rw[aIts,G0e]at a
   have a:Vw T D (aC c++.nl::(aIts cs++r)) i:=a
   have p:=a.pos
   have hT:=f.len
   have t:(!(ic&&csT T i)&&bC (tp T i))=true:=by
    rw[K7u _ c _ (G0r _) d.1.2 a,(Z9d a d.1.2).1,G2s]
    rfl
   obtain⟨c',j,A,C,u⟩:=Y9p (S:=S) (ic:=ic) f hb d.1.2 d.1.1 (by omega) a
   have E:=u.pos
   obtain⟨-,L,l⟩:=u.nl
   have F:=K4i (S:=S) (D:=D) E.1 (by omega) (by rw[u.gapT];rfl) (by rw[l.gapT];exact J3j d.2 o.1)
   have M:cs.length+1<m+1:=y
   have O:e.length+(cs.length+1)<=1000000:=z
   obtain⟨l',H,I,J,K⟩:=K7j f hb o cs (j+1) m (e++[c']) d.2 (by omega) l (by omega) (by rw[Q0g];omega)
   refine⟨c'::l',H,?_,by rw[zCs,zCs,C,J],K⟩
   show Z9o _ _ _ _ _ _ _=_
   rw[Z9o]
   try dsimp only
   rw[Z8x _ f.toOkT p.1 (by omega),G0a,t,Q0b,A]
   simp only[Q0i]
   rw[Q3g (by simp only[G0i,G0z];omega),G0a,F,G0a]
   try dsimp only
   rw[G4t,Q0b,I,G0e]
   rfl
theorem X4f{g:PCm}{N:Nat}(hb:Bnd g N){ic:Bool}{cs:List Cmd}(e:rUp cs 4=true)(o:(aIts cs).length<=N):RdL g ic cs:=by
 intro S T D b r i l a f
 have m:=a.pos
 have hT:=l.len
 have fin:∀i',Vw T D (aIts cs++r) i'->F80 S T D i=some (b,i')->∃l' j,F47 g ic S T D i=some (.inr (l',j))/\zCs l'=zCs cs/\Vw T D r j:=by
  intro i' d p
  have x:=d.len
  have y:=X2u cs
  obtain⟨l',j,q,t,u⟩:=K7j (S:=S) (ic:=ic) l hb f cs i' BIG [] e o d (by unfold BIG;omega) (by simp;omega)
  refine⟨l',j,?_,t,u⟩
  rw[F47,p,G0a]
  exact q
 cases b with
 | false=>
   have a:Vw T D (aIts cs++r) i:=a
   exact fin i a (Y6c m.1 (by omega) (by rw[a.gapT];exact J3j e f.1))
 | true=>
   have a:Vw T D (.nl::(aIts cs++r)) i:=a
   obtain⟨-,z,d⟩:=a.nl
   exact fin (i+1) d (K4i m.1 (by omega) (by rw[a.gapT];rfl) (by rw[d.gapT];exact J3j e f.1))
end
theorem V4g{α:Type}(p:Option (Int ⊕ (α×Int))):(Q0i p λ(a,d)=>some (.inr (a,d)))=p:=by
 cases p with
 | none=>rfl
 | some x=>cases x<;>rfl
section
variable {S:Str}{T:List Token}{D:List Str}{i:Int}
theorem Y4c(g:PCm)(f:PWd)(c:Bool)(e:OkT T)(l:0<=i)(q:i<=1000001):∃X,F200 g f c S T D i=
 (bif asg T i then F223 g f c S T D i
 else bif isT (tp T i) [33]then F224 g 7 1 c S T D i
 else bif isT (tp T i) [64]then F224 g 13 1 c S T D i
 else bif isT (tp T i) [123]then F225 g f S T D i
 else bif keyT (tp T i) [105,102]then(bif keyT (tp T (i+1)) [110,111,116]then F224 g 9 2 c S T D i else F226 g 8 c S T D i)
 else bif keyT (tp T i) [119,104,105,108,101]then F226 g 11 c S T D i
 else bif keyT (tp T i) [102,111,114]then F227 g f c S T D i
 else bif keyT (tp T i) [115,119,105,116,99,104]then F228 g f S T D i
 else bif keyT (tp T i) [102,110]then F229 g S T D i
 else bif keyT (tp T i) [126]then F230 f S T D i
 else bif keyT (tp T i) [99,97,115,101]then X else Q9s c S T D f i):=by
 apply Exists.intro
 rw[F200,Q1r l (by omega),G0a,Y3e l (by omega),G0a,X0g,G0a]
 simp only[V4g]
 have a:((Q0e (plT (tp T i)) (F144 (tp T i).text_)).bind λd=>(Q0e (plT (tp T i)&&d) (F128 (tp T (i+1)) [61])).bind λm=>some ((plT (tp T i)&&d)&&m))=some (asg T i):=by
  rw[asg]
  cases plT (tp T i)with
  | false=>rfl
  | true=>
    rw[Q0f,J4r _ (by have:=(e.tl i).1;omega),G0a]
    cases nameB (tp T i).text_<;>rfl
 obtain⟨d,o,a⟩:=obs a
 obtain⟨m,p,a⟩:=obs a
 rw[o,G0a,p,G0a,G3p a]
 simp only[Z9v,G0a,Z9m (e.tl _).1]
 simp only[Q7w (show kwsB [105,102]=true by kernel_rfl),Q7w (show kwsB [110,111,116]=true by kernel_rfl),Q7w (show kwsB [119,104,105,108,101]=true by kernel_rfl),Q7w (show kwsB [102,111,114]=true by kernel_rfl),Q7w (show kwsB [115,119,105,116,99,104]=true by kernel_rfl),Q7w (show kwsB [102,110]=true by kernel_rfl),Q7w (show kwsB [126]=true by kernel_rfl),Q7w (show kwsB [99,97,115,101]=true by kernel_rfl)]
 rfl
def dsp(t u:Token):Nat:=
 bif (plT t&&nameB t.text_)&&isT u [61]then 0
 else bif isT t [33]then 1
 else bif isT t [64]then 2
 else bif isT t [123]then 3
 else bif keyT t [105,102]then(bif keyT u [110,111,116]then 4 else 5)
 else bif keyT t [119,104,105,108,101]then 6
 else bif keyT t [102,111,114]then 7
 else bif keyT t [115,119,105,116,99,104]then 8
 else bif keyT t [102,110]then 9
 else bif keyT t [126]then 10
 else bif keyT t [99,97,115,101]then 11 else 12
theorem V3o(g:PCm)(f:PWd)(c:Bool)(a:OkT T)(d:0<=i)(e:i<=1000001):∃X,F200 g f c S T D i=match dsp (tp T i) (tp T (i+1))with
 | 0=>F223 g f c S T D i
 | 1=>F224 g 7 1 c S T D i
 | 2=>F224 g 13 1 c S T D i
 | 3=>F225 g f S T D i
 | 4=>F224 g 9 2 c S T D i
 | 5=>F226 g 8 c S T D i
 | 6=>F226 g 11 c S T D i
 | 7=>F227 g f c S T D i
 | 8=>F228 g f S T D i
 | 9=>F229 g S T D i
 | 10=>F230 f S T D i
 | 11=>X
 | _=>Q9s c S T D f i:=by
 obtain⟨X,hX⟩:=Y4c (S:=S) (D:=D) g f c a d e
 refine⟨X,?_⟩
 rw[hX,dsp,asg]
 cases(plT (tp T i)&&nameB (tp T i).text_)&&isT (tp T (i+1)) [61]
 ·cases isT (tp T i) [33]
  ·cases isT (tp T i) [64]
   ·cases isT (tp T i) [123]
    ·cases keyT (tp T i) [105,102]
     ·cases keyT (tp T i) [119,104,105,108,101]
      ·cases keyT (tp T i) [102,111,114]
       ·cases keyT (tp T i) [115,119,105,116,99,104]
        ·cases keyT (tp T i) [102,110]
         ·cases keyT (tp T i) [126]
          ·cases keyT (tp T i) [99,97,115,101]<;>rfl
          rfl
         rfl
        rfl
       rfl
      rfl
     cases keyT (tp T (i+1)) [110,111,116]<;>rfl
    rfl
   rfl
  rfl
 rfl
theorem K5a{a:List Atm}(d:Vw T D a i)(u:Token):dsp (tp T i) u=dsp (nt a) u:=by rw[<-d.nt];rfl
theorem J8w{a b:List Atm}(d:Vw T D a i)(e:Vw T D b (i+1)):dsp (tp T i) (tp T (i+1))=dsp (nt a) (nt b):=by rw[<-d.nt,<-e.nt];rfl
theorem K0n{t:Token}{s:Str}(h:bR t=true)(hs:(decide (c0 s=60)||decide (c0 s=62))=false):isT t s=false:=by
 cases a:isT t s with
 | false=>rfl
 | true=>
   rw[isT,G0d,G0l,G0l]at a
   rw[bR,a.1,a.2,hs]at h
   cases h
theorem K5m(w:Word)(s:List Atm):aSep [w] s true=aW w:=by rw[Q3a,aSep,G0n]
theorem K5l(w:Word)(s:List Atm):aSep [w] s false=s++aW w:=by rw[Q0y,aSep,G0n]
theorem Z9c{s:List Atm}{x:Word}:∀ {l:List Word} {b:Bool},x∈l->(aW x).length<=(aSep l s b).length
 | c::l,b,h=>by
   rw[aSep,G0g,G0g]
   rcases G1j.1 h with rfl|h
   ·omega
   have:=Z9c (s:=s) (b:=false) h
   omega
theorem K7z{x:Redir}:∀ {l:List Redir} {b:Bool},x∈l->(aR x).length<=(aRs l b).length
 | c::l,b,h=>by
   rw[aRs,G0g,G0g]
   rcases G1j.1 h with rfl|h
   ·omega
   have:=K7z (b:=false) h
   omega
theorem J2u{l:List Word}{x:Word}(h:rWs l=true)(a:x∈l):rW x=true:=by
 rw[Z7k]at h
 exact G0p.1 h x a
theorem K9s{l:List Redir}{x:Redir}(h:rRs l=true)(a:x∈l):rR x=true:=by
 rw[J7s]at h
 exact G0p.1 h x a
theorem X4g{l:List Cmd}{x:Cmd}(h:Q3v l=true)(a:x∈l):Q5p x=true:=by
 rw[Z3o]at h
 exact G0p.1 h x a
theorem Y8s{d:Redir}(h:rR d=true)(e:rW d.word_=true):(aW d.word_).length<=(aR d).length:=by
 obtain⟨k,fd,g,w,raw⟩:=d
 have e:rW w=true:=e
 show(aW w).length<=_
 have f:Z8e w=true->False:=by
  intro a
  rw[Z8d a,rW]at e
  cases e
 obtain⟨-,hk⟩:=Z7l h
 rcases hk with⟨rfl|rfl|rfl,-⟩|⟨rfl,-,a⟩|⟨rfl,-,-,a⟩|⟨rfl,-,a⟩
 ·rw[aR];exact G3c (G6z _) (G6z _)
 ·rw[aR];exact G3c (G6z _) (G6z _)
 ·rw[aR];exact G3c (G6z _) (G6z _)
 ·exact(f a).elim
 ·exact(f a).elim
 rw[Y8r,G0h (Z6x a).2.1,aR]
 exact G0r 1
theorem V5y{k:Int}(h:lvl 1 k=true):k≠14/\k≠5/\k≠6/\k≠3:=by
 refine⟨?_,?_,?_,?_⟩<;>(rintro rfl;exact absurd h (by decide))
theorem Rd_w{f:PWd}{N:Nat}{ws:List Word}{s:List Atm}{b:Bool}(d:BndW f N)(h:rWs ws=true)(e:(aSep ws s b).length<=N):∀w∈ws,Rd f w:=
 λw a=>d w (J2u h a) (G3c (Z9c a) e)
theorem Rd_r{f:PWd}{N:Nat}{rs:List Redir}{b:Bool}(g:BndW f N)(h:rRs rs=true)(l:(aRs rs b).length<=N):∀d∈rs,RdR f d:=
 λd a e=>g _ e (G3c (Y8s (K9s h a) e) (G3c (K7z a) l))
theorem V0v(a:∀s,keyB s=true->keyT (tp T i) s=false):keyT (tp T i) [105,102]=false/\keyT (tp T i) [119,104,105,108,101]=false/\keyT (tp T i) [102,111,114]=false/\keyT (tp T i) [115,119,105,116,99,104]=false/\keyT (tp T i) [102,110]=false/\keyT (tp T i) [126]=false/\keyT (tp T i) [99,97,115,101]=false:=
 ⟨a _ (by kernel_rfl),a _ (by kernel_rfl),a _ (by kernel_rfl),a _ (by kernel_rfl),a _ (by kernel_rfl),a _ (by kernel_rfl),a _ (by kernel_rfl)⟩
theorem V5f{n:Str}{x:List Atm}(a:Vw T D (ax n::x) i):plT (tp T i)=true/\(tp T i).text_=n:=by
 obtain⟨⟨p,e⟩,-⟩:=a.w
 rw[e,plT]
 show(true&&!Q2k (zr n.length))=true/\n=n
 rw[K6k]
 exact⟨rfl,rfl⟩
theorem V2q{c:Cmd}{r:List Atm}(h:rC c=true):(nt (aC c++r)).kind_≠3/\isT (nt (aC c++r)) [61]=false:=by
 obtain⟨t,a,d⟩:=J0k c h
 rw[d]
 exact⟨(bC_k a).1,(bC_k a).2.2⟩
end
theorem Y4u{g:PCm}{f:PWd}{M:Nat}(hb:Bnd g M)(V:BndW f (M+1))(c:Cmd)(hc:rC c=true)(h1:lvl 1 c.kind_=true)(A:(aC c).length<=M+1):RdK (F200 g f) c:=by
 intro S T D ic r i H m K
 have hp:=m.pos
 have hT:=H.len
 obtain⟨X,hX⟩:=V3o (S:=S) (D:=D) g f ic H.toOkT hp.1 (by omega)
 obtain⟨k,a,nm,ws,rs,ks⟩:=c
 have h1:lvl 1 k=true:=h1
 obtain⟨a1,n5,n6,n3⟩:=V5y h1
 rcases Q4t hc with⟨rfl,rfl,J,rfl,C,I,Y⟩|⟨rfl,U,rfl,J,q2,C,F⟩|⟨rfl|rfl|rfl,rfl,rfl,rfl,J,F⟩|⟨e,-⟩|⟨q0,rfl,rfl,rfl,J,F⟩|⟨e|e,-⟩|⟨rfl,U,rfl,J,C,F⟩|⟨rfl,rfl,rfl,I,F⟩|⟨rfl,U,rfl,rfl,F⟩|⟨e,-⟩|⟨rfl,rfl,rfl,hne,rfl,C⟩|⟨rfl,rfl,rfl,J,C,F⟩<;>try exact absurd e (by assumption)
 ·
  have q:aC ⟨1,a,[],ws,rs,[]⟩=aSep ws [.sp] true++aRs rs (decide (ws=[])):=by rw[aC];rfl
  rw[q]at m A
  rw[G0g]at A
  have aD:bC (tp T i)=true:=by
   obtain⟨t,L,O⟩:=J0k _ hc
   rw[q]at O
   rw[m.bC,O]
   exact L
  have ad:csT T i=false:=K7u _ _ r (G0r _) hc (by rw[q];exact m)
  have fin:asg T i=false->isT (tp T i) [33]=false->isT (tp T i) [64]=false->isT (tp T i) [123]=false->(∀s,keyB s=true->keyT (tp T i) s=false)->∃c' j,F200 g f ic S T D i=some (.inr (c',j))/\zC c'=zC ⟨1,a,[],ws,rs,[]⟩/\Vw T D r j:=by
   intro b1 b2 b3 b4 b5
   obtain⟨k1,k2,k3,k4,k5,k6,k7⟩:=V0v b5
   obtain⟨c',j,p,u,z⟩:=Y3r (S:=S) H C I (Rd_w (s:=[.sp]) (b:=true) V C (by omega)) (Rd_r (b:=decide (ws=[])) V I (by omega)) m K
   refine⟨c',j,?_,by rw[u,zC,zC],z⟩
   have hd:dsp (tp T i) (tp T (i+1))=12:=by
    rw[asg]at b1
    rw[dsp,b1,b2,b3,b4,k1,k2,k3,k4,k5,k6,k7]
    rfl
   rw[hX,hd]
   show Q9s ic S T D f i=_
   rw[Q9s,Z8x ic H.toOkT hp.1 (by omega),G0a,ad,aD]
   simp only[G2s,G0o,G2x,G0m,G0v,V4g]
   exact p
  cases ws with
  | nil=>
    cases rs with
    | nil=>simp at J
    | cons d rs=>
      rw[rRs,G0d]at I
      obtain⟨t,L,O,-,-,-,g3⟩:=J6t I.1
      have U:un (tp T i)=t:=by
       have:=m.nt
       rw[aSep,G0t,Q8g,G0h rfl,Q0b,G0t,G0e,g3]at this
       exact this
      have au:(tp T i).kind_≠1:=by
       have:=X2q O
       rw[<-U]at this
       exact this
      have ak:bR (tp T i)=true:=by
       rw[<-U]at L
       exact L
      refine fin ?_ (K0n ak (by kernel_rfl)) (K0n ak (by kernel_rfl)) (K0n ak (by kernel_rfl)) (λs _=>X8m au)
      rw[asg,plT,G0b au]
      rfl
  | cons w ws=>
    rw[rWs,G0d]at C
    have Y:Q5u (w::ws)=false:=by
     rcases Y with Y|Y
     ·cases Y
     exact Y
    have al:Vw T D (aW w++(aSep ws [.sp] false++(aRs rs (decide (w::ws=[]))++r))) i:=by
     rw[Q3a,G0e,G0e]at m
     exact m
    obtain⟨t,L,O⟩:=Z1r w C.1
    have am:bW (tp T i)=true:=by
     rw[al.bW,O]
     exact L
    refine fin (Y8o C.1 al ?_) (Z8y am (by decide)) (Z8y am (by decide)) (Z8y am (by decide)) (λs hs=>by rw[al.keyT];exact V6m C.1 Y hs _)
    cases ws with
    | nil=>
      rw[aSep,G0t]
      cases rs with
      | nil=>rw[aRs];exact K.e
      | cons d rs=>
        rw[rRs,G0d]at I
        obtain⟨t,-,-,-,-,L,O⟩:=J6t I.1
        rw[G0b (by simp),Q8g,G0e,G0e]
        show isT (nt (aR d++_)) [61]=false
        rw[O]
        exact L
    | cons v ws=>
      rw[rWs,G0d]at C
      obtain⟨t,L,O⟩:=Z1r v C.2.1
      rw[Q0y,G0e,G0e]
      show isT (nt (aW v++_)) [61]=false
      rw[O]
      exact Z8y L (by decide)
 
 obtain⟨w,rfl⟩:=len1 J
 rw[rWs,G0d]at C
 have q:aC ⟨2,a,nm,[w],[],ks⟩=ax nm::.s [61]::(aW w++((bif decide (ks.length=0)then[]else[.sp])++aJ ks [] true)):=by
  rw[aC]
  show ax nm::.s [61]::(aSep [w] [.sp] true++_)=_
  rw[K5m]
 rw[q]at m A
 rw[G0i,G0i,G0g,G0g]at A
 have m:Vw T D (ax nm::.s [61]::((aW w++((bif decide (ks.length=0)then[]else[.sp])++aJ ks [] true))++r)) i:=m
 have hd:dsp (tp T i) (tp T (i+1))=0:=by
  obtain⟨b1,b2⟩:=V5f m
  obtain⟨-,-,o⟩:=m.w
  rw[dsp,b1,b2,U,o.isT]
  rfl
 have hf:=V w C.1 (by omega)
 rw[G0e,G0e]at m
 match ks,q2,F with
 | [],_,_=>
   have m:Vw T D (ax nm::.s [61]::(aW w++r)) i:=m
   obtain⟨c',j,p,u,z⟩:=Y4a (S:=S) (g:=g) (ic:=ic) H hf m K
   refine⟨c',j,?_,by rw[u,zC,zC],z⟩
   rw[hX,hd]
   exact p
 | [d],_,F=>
   obtain⟨Q,E⟩:=Q8s F
   rw[Q4r]at m A
   have m:Vw T D (ax nm::.s [61]::(aW w++(.sp::(aC d++r)))) i:=m
   obtain⟨c',j,p,u,z⟩:=Y3z (S:=S) (ic:=ic) H hf (hb d E Q (by omega)) E m K
   refine⟨c',j,?_,by rw[u,zC,zC],z⟩
   rw[hX,hd]
   exact p
 
 obtain⟨d,rfl⟩:=len1 J
 obtain⟨Q,E⟩:=Q8s F
 have q:aC ⟨7,a,[],[],[],[d]⟩=.s [33]::.sp::aC d:=by
  rw[aC]
  show .s [33]::.sp::aJ [d] [] true=_
  rw[Q4r]
 rw[q]at m A
 rw[G0i,G0i]at A
 have m:Vw T D (.s [33]::.sp::(aC d++r)) i:=m
 obtain⟨-,-,o⟩:=m.s
 obtain⟨c',j,p,u,z⟩:=K2g (S:=S) (ic:=ic) H 7 1 hp.1 (by omega) (by decide) (Q3x d E) (hb d E Q (by omega)) o K (V2q E).1
 refine⟨c',j,?_,by rw[u,zC,zC],z⟩
 rw[hX,show dsp _ _=1 from K5a m _]
 exact p
 
 obtain⟨d,rfl⟩:=len1 J
 obtain⟨Q,E⟩:=Q8s F
 have q:aC ⟨13,a,[],[],[],[d]⟩=.s [64]::.sp::aC d:=by
  rw[aC]
  show .s [64]::.sp::aJ [d] [] true=_
  rw[Q4r]
 rw[q]at m A
 rw[G0i,G0i]at A
 have m:Vw T D (.s [64]::.sp::(aC d++r)) i:=m
 obtain⟨-,-,o⟩:=m.s
 obtain⟨c',j,p,u,z⟩:=K2g (S:=S) (ic:=ic) H 13 1 hp.1 (by omega) (by decide) (Q3x d E) (hb d E Q (by omega)) o K (V2q E).1
 refine⟨c',j,?_,by rw[u,zC,zC],z⟩
 rw[hX,show dsp _ _=2 from K5a m _]
 exact p
 
 obtain⟨d,rfl⟩:=len1 J
 obtain⟨Q,E⟩:=Q8s F
 have q:aC ⟨9,a,[],[],[],[d]⟩=ax [105,102]::.sp::ax [110,111,116]::.sp::aC d:=by
  rw[aC]
  show ax [105,102]::.sp::ax [110,111,116]::.sp::aJ [d] [] true=_
  rw[Q4r]
 rw[q]at m A
 rw[G0i,G0i,G0i,G0i]at A
 have m:Vw T D (ax [105,102]::.sp::ax [110,111,116]::.sp::(aC d++r)) i:=m
 obtain⟨-,-,o⟩:=m.w
 have o:=o.sp
 obtain⟨-,-,aw⟩:=o.w
 rw[show i+1+1=i+2 by omega]at aw
 obtain⟨c',j,p,u,z⟩:=K2g (S:=S) (ic:=ic) H 9 2 hp.1 (by omega) (by decide) (Q3x d E) (hb d E Q (by omega)) aw K (V2q E).1
 refine⟨c',j,?_,by rw[u,zC,zC],z⟩
 rw[hX,show dsp _ _=4 from (J8w m o).trans (by kernel_rfl)]
 exact p
 
 obtain⟨c0,d,rfl⟩:=len2 J
 rw[rIf,G0d,G0d,G0d,G0l,G0l]at F
 obtain⟨⟨⟨u1,u2⟩,u3⟩,u4⟩:=F
 obtain⟨Q,E⟩:=Q8s u4
 obtain⟨k0,a0,a6,a7,aS,cs⟩:=c0
 have u1:k0=12:=u1
 have aU:aS=[]:=G1q.1 u2
 subst u1 aU
 rcases Q4t u3 with⟨e,-⟩|⟨e,-⟩|⟨e|e|e,-⟩|⟨e,-⟩|⟨e|e,-⟩|⟨e|e,-⟩|⟨e,-⟩|⟨-,rfl,rfl,-,ad⟩|⟨e,-⟩|⟨e,-⟩|⟨e,-⟩|⟨e,-⟩<;>try exact absurd e (by decide)
 obtain⟨kw,ay⟩:∃kw:Str,(k=8/\kw=[105,102])\/(k=11/\kw=[119,104,105,108,101]):=by
  rcases q0 with h|h
  ·exact⟨_,.inl ⟨h,rfl⟩⟩
  exact⟨_,.inr ⟨h,rfl⟩⟩
 have q:aC ⟨k,a,[],[],[],[⟨12,a0,[],[],[],cs⟩,d]⟩=ax kw::.s [40]::.nl::(aIts cs++(.s [41]::.sp::aC d)):=by
  have e:aC ⟨k,a,[],[],[],[⟨12,a0,[],[],[],cs⟩,d]⟩=ax kw::.s [40]::aT [⟨12,a0,[],[],[],cs⟩,d]:=by
   rcases ay with⟨rfl,rfl⟩|⟨rfl,rfl⟩<;>(rw[aC];rfl)
  rw[e,aT,aK,Q4r]
 rw[q]at m A
 rw[G0i,G0i,G0i,G0g,G0i,G0i]at A
 have m:Vw T D (ax kw::.s [40]::.nl::((aIts cs++(.s [41]::.sp::aC d))++r)) i:=m
 rw[G0e]at m
 have m:Vw T D (ax kw::.s [40]::.nl::(aIts cs++(.s [41]::.sp::(aC d++r)))) i:=m
 obtain⟨-,-,o⟩:=m.w
 obtain⟨c',j,p,u,z⟩:=Y3x (S:=S) (k:=k) (a:=a) (nm:=[]) (ic:=ic) H (X4f hb ad (by omega)) (hb d E Q (by omega)) E m K
 refine⟨c',j,?_,by rw[u];simp only[zC,zCs],z⟩
 rcases ay with⟨rfl,rfl⟩|⟨rfl,rfl⟩
 ·rw[hX,show dsp _ _=5 from (J8w m o).trans (by kernel_rfl)]
  exact p
 rw[hX,show dsp _ _=6 from (J8w m o).trans (by kernel_rfl)]
 exact p
 
 obtain⟨d,rfl⟩:=len1 J
 obtain⟨Q,E⟩:=Q8s F
 have q:aC ⟨10,a,nm,ws,[],[d]⟩=ax [102,111,114]::.s [40]::ax nm::.sp::ax [105,110]::(aSep ws [.sp] false++(.s [41]::.sp::aC d)):=by
  rw[aC]
  show ax [102,111,114]::.s [40]::ax nm::.sp::ax [105,110]::(aSep ws [.sp] false++(.s [41]::.sp::aJ [d] [] true))=_
  rw[Q4r]
 rw[q]at m A
 rw[G0i,G0i,G0i,G0i,G0i,G0g,G0i,G0i]at A
 have m:Vw T D (ax [102,111,114]::.s [40]::ax nm::.sp::ax [105,110]::((aSep ws [.sp] false++(.s [41]::.sp::aC d))++r)) i:=m
 rw[G0e]at m
 have m:Vw T D (ax [102,111,114]::.s [40]::ax nm::.sp::ax [105,110]::(aSep ws [.sp] false++(.s [41]::.sp::(aC d++r)))) i:=m
 obtain⟨-,-,o⟩:=m.w
 obtain⟨c',j,p,u,z⟩:=Y3w (S:=S) (ic:=ic) H U C (Rd_w (s:=[.sp]) (b:=false) V C (by omega)) (hb d E Q (by omega)) E m K
 refine⟨c',j,?_,by rw[u];simp only[zC],z⟩
 rw[hX,show dsp _ _=7 from (J8w m o).trans (by kernel_rfl)]
 exact p
 
 have q:aC ⟨12,a,[],[],rs,ks⟩=.s [123]::.nl::(aIts ks++(.s [125]::aRs rs false)):=by rw[aC];rfl
 rw[q]at m A
 rw[G0i,G0i,G0g,G0i]at A
 have m:Vw T D (.s [123]::.nl::((aIts ks++(.s [125]::aRs rs false))++r)) i:=m
 rw[G0e]at m
 have m:Vw T D (.s [123]::.nl::(aIts ks++.s [125]::(aRs rs false++r))) i:=m
 obtain⟨c',j,p,u,z⟩:=Y3y (S:=S) H (X4f hb F (by omega)) I (Rd_r (b:=false) V I (by omega)) m K
 refine⟨c',j,?_,by rw[u];simp only[zC],z⟩
 rw[hX,show dsp _ _=3 from K5a m _]
 exact p
 
 cases ks with
 | nil=>
   have q:aC ⟨15,a,nm,[],[],[]⟩=ax [102,110]::.sp::ax nm::[]:=by rw[aC];rfl
   rw[q]at m
   have m:Vw T D (ax [102,110]::.sp::ax nm::r) i:=m
   obtain⟨-,-,o⟩:=m.w
   have o:=o.sp
   obtain⟨c',j,p,u,z⟩:=Y3u (S:=S) (g:=g) H U m K
   exact⟨c',j,by rw[hX,show dsp _ _=9 from (J8w m o).trans (by kernel_rfl)];exact p,by rw[u];simp only[zC],z⟩
 | cons d ks=>
   have q:aC ⟨15,a,nm,[],[],d::ks⟩=ax [102,110]::.sp::ax nm::.sp::.s [123]::.nl::(aIts (d::ks)++[.s [125]]):=by rw[aC];rfl
   rw[q]at m A
   rw[G0i,G0i,G0i,G0i,G0i,G0i,G0g]at A
   have m:Vw T D (ax [102,110]::.sp::ax nm::.sp::.s [123]::.nl::((aIts (d::ks)++[.s [125]])++r)) i:=m
   rw[G0e]at m
   have m:Vw T D (ax [102,110]::.sp::ax nm::.sp::.s [123]::.nl::(aIts (d::ks)++.s [125]::r)) i:=m
   obtain⟨-,-,o⟩:=m.w
   have o:=o.sp
   obtain⟨c',j,p,u,z⟩:=Y3t (S:=S) H U (X4f hb F (by omega)) (by simp) m
   exact⟨c',j,by rw[hX,show dsp _ _=9 from (J8w m o).trans (by kernel_rfl)];exact p,by rw[u];simp only[zC],z⟩
 
 have q:aC ⟨16,a,[],ws,[],[]⟩=ax [126]::aSep ws [.sp] false:=by rw[aC];rfl
 rw[q]at m A
 rw[G0i]at A
 have m:Vw T D (ax [126]::(aSep ws [.sp] false++r)) i:=m
 obtain⟨c',j,p,u,z⟩:=Y3s (S:=S) H C hne (Rd_w (s:=[.sp]) (b:=false) V C (by omega)) m K
 refine⟨c',j,?_,by rw[u];simp only[zC],z⟩
 rw[hX,show dsp _ _=10 from (K5a m _).trans (by kernel_rfl)]
 exact p
 
 obtain⟨w,rfl⟩:=len1 J
 rw[rWs,G0d]at C
 have q:aC ⟨17,a,[],[w],[],ks⟩=ax [115,119,105,116,99,104]::.sp::(aW w++(.sp::.s [123]::.nl::(aCs ks++[.s [125]]))):=by
  rw[aC]
  show ax [115,119,105,116,99,104]::(aSep [w] [.sp] false++_)=_
  rw[K5l]
  rfl
 rw[q]at m A
 rw[G0i,G0i,G0g,G0i,G0i,G0i,G0g]at A
 have m:Vw T D (ax [115,119,105,116,99,104]::.sp::((aW w++(.sp::.s [123]::.nl::(aCs ks++[.s [125]])))++r)) i:=m
 rw[G0e]at m
 have m:Vw T D (ax [115,119,105,116,99,104]::.sp::(aW w++(.sp::.s [123]::.nl::((aCs ks++[.s [125]])++r)))) i:=m
 rw[G0e]at m
 have m:Vw T D (ax [115,119,105,116,99,104]::.sp::(aW w++(.sp::.s [123]::.nl::(aCs ks++.s [125]::r)))) i:=m
 obtain⟨-,-,o⟩:=m.w
 have o:=o.sp
 have hd:dsp (tp T i) (tp T (i+1))=8:=by
  obtain⟨t,L,O⟩:=Z1r w C.1
  rw[J8w m o,O,dsp,Z8y L (by decide),G2s]
  kernel_rfl
 have ad:∀l:List Cmd,∀x∈l,Q5p x=true->(aSep x.words_ [.sp] false).length+(aIts x.kids_).length<=(aCs l).length:=by
  intro l
  induction l with
  | nil=>intro x W;cases W
  | cons y l ih=>
    intro x W I
    rw[aCs,G0g]
    rcases G1j.1 W with rfl|W
    ·rw[Y1r,G0i,G0g,G0i]
     omega
    have:=ih x W I
    omega
 obtain⟨c',j,p,u,z⟩:=Y3v (S:=S) (g:=g) H (V w C.1 (by omega)) F (λx W=>by
  have I:=X4g F W
  have h5:=ad ks x W I
  obtain⟨a2,aX,aY,rfl,-,w2,u2⟩:=Z0c I
  have h5:(aSep aX [.sp] false).length+(aIts aY).length<=(aCs ks).length:=h5
  exact⟨Rd_w (s:=[.sp]) (b:=false) V w2 (by omega),X4f hb u2 (by omega)⟩) m
 refine⟨c',j,?_,by rw[u];simp only[zC],z⟩
 rw[hX,hd]
 exact p
theorem V4q:∀ (w:Word),rW w=true->(∀x∈w.words_,rW x=true/\(aW x).length+1<=(aW w).length)/\rUp w.cmd_ 4=true/\(aIts w.cmd_).length+1<=(aW w).length
 | ⟨k,t,q,ws,cs⟩,h=>by
   rcases Q6x h with⟨rfl,-,rfl,rfl⟩|⟨rfl|rfl,-,rfl,rfl,rfl⟩|⟨rfl,-,rfl,-,rfl,d⟩|⟨rfl,rfl,rfl,rfl,d⟩|⟨rfl,rfl,rfl,rfl,f⟩|⟨rfl,hk,rfl,rfl,l,rfl,d⟩
   ·refine⟨λx a=>(G2r a).elim,by rw[rUp],?_⟩
    rw[aW];exact G0r 1
   ·refine⟨λx a=>(G2r a).elim,by rw[rUp],?_⟩
    rw[aW];exact G0r 1
   ·refine⟨λx a=>(G2r a).elim,by rw[rUp],?_⟩
    rw[aW];exact G0r 1
   ·have e:aW ⟨7,t,[],ws,[]⟩=.v t::.s [40]::(aSep ws [.sp] true++[.s [41]]):=by rw[aW];rfl
    refine⟨λx a=>⟨J2u d a,?_⟩,by rw[rUp],?_⟩
    ·have:=Z9c (s:=[.sp]) (b:=true) (show x∈ws from a)
     rw[e,G0i,G0i,G0g]
     omega
    rw[e,G0i]
    show(aIts []).length+1<=_
    rw[aIts]
    exact G8j (G1t _)
   ·have e:aW ⟨5,[],[],ws,[]⟩=.s [40]::(aSep ws [.sp] true++[.s [41]]):=by rw[aW];rfl
    refine⟨λx a=>⟨J2u d a,?_⟩,by rw[rUp],?_⟩
    ·have:=Z9c (s:=[.sp]) (b:=true) (show x∈ws from a)
     rw[e,G0i,G0g]
     omega
    rw[e,G0i]
    show(aIts []).length+1<=_
    rw[aIts]
    exact G8j (G1t _)
   ·have e:aW ⟨6,[],[],[],cs⟩=.s [96]::.s [123]::.nl::(aIts cs++[.s [125]]):=by rw[aW];rfl
    refine⟨λx a=>(G2r a).elim,f,?_⟩
    rw[e,G0i,G0i,G0i,G0g]
    show(aIts cs).length+1<=_
    omega
   have e:aW ⟨4,[],[],ws,[]⟩=aSep ws [.s [94]] true:=by rw[aW];rfl
   match ws,l,d with
   | u::v::us,_,d=>
   have g:(aSep (u::v::us) [.s [94]] true).length=(aW u).length+(1+((aW v).length+(aSep us [.s [94]] false).length)):=by
    rw[Q3a,Q0y,G0g,G0g,G0g]
    rfl
   refine⟨λx a=>⟨J2u d a,?_⟩,by rw[rUp],?_⟩
   ·rw[e,g]
    rw[rWs,G0d,rWs,G0d]at d
    rcases G1j.1 (show x∈u::v::us from a)with rfl|a
    ·omega
    have f:0<(aW u).length:=G3z.2 (Z5s u d.1).2.2
    rcases G1j.1 a with rfl|a
    ·omega
    have:=Z9c (s:=[.s [94]]) (b:=false) a
    omega
   rw[e,g]
   show(aIts []).length+1<=_
   rw[aIts]
   show 0+1<=_
   omega
theorem Y4t{g:PCm}{f:PWd}{M:Nat}(hb:Bnd g M)(p:BndW f M)(w:Word)(e:rW w=true)(l:(aW w).length<=M+1):Rd (F252 g f) w:=by
 intro S T D r i q t u
 have m:∀x:Word,rW x=true->(aW x).length<=M+1->Pcs f g x:=by
  intro x d l
  obtain⟨a,z,A⟩:=V4q x d
  exact⟨λy o=>p y (a y o).1 (by have:=(a y o).2;omega),X4f hb z (by omega)⟩
 obtain⟨a,-⟩:=V4q w e
 exact Y3q q w e (m w e l) (λx d=>m x (a x d).1 (by have:=(a x d).2;omega)) t u
theorem K3h:∀ (n N:Nat),(2 * N+2<=n->Bnd (K200 n) N)/\(2 * N+1<=n->BndW (K252 n) N):=by
 intro n
 induction n with
 | zero=>exact λN=>⟨λh=>by omega,λh=>by omega⟩
 | succ n e=>
   intro N
   refine⟨λh x a f d=>?_,λh w a d=>?_⟩
   ·cases N with
    | zero=>exact absurd (G1q.1 (G8z.1 d)) (Q3x x a).2.2
    | succ M=>exact Y4u ((e M).1 (by omega)) ((e (M+1)).2 (by omega)) x a f d
   cases N with
   | zero=>exact absurd (G1q.1 (G8z.1 d)) (Z5s w a).2.2
   | succ M=>exact Y4t ((e M).1 (by omega)) ((e M).2 (by omega)) w a d
theorem Q6s:∀ (R:List Atm) (g:Bool),WF g R->R.length<=2 * (dcs R).length+(bif isSp R then 1 else 0)
 | [],_,_=>G1t _
 | .sp::r,g,h=>by
   obtain⟨-,a,-,d⟩:=h
   have a:isSp r=false/\isNl r=false/\r≠[]:=a
   have:=Q6s r _ d
   rw[a.1]at this
   show r.length+1<=2 * (dcs r).length+1
   exact G8j this
 | .w t q::r,g,h=>by
   have:=Q6s r _ h.2.2.2
   show r.length+1<=2 * ((dcs r).length+1)+0
   cases hs:isSp r<;>rw[hs]at this<;>simp only[G1a,G0v]at this<;>omega
 | .v n::r,g,h=>by
   have:=Q6s r _ h.2.2.2
   show r.length+1<=2 * ((dcs r).length+2)+0
   cases hs:isSp r<;>rw[hs]at this<;>simp only[G1a,G0v]at this<;>omega
 | .k n::r,g,h=>by
   have:=Q6s r _ h.2.2.2
   show r.length+1<=2 * ((dcs r).length+2)+0
   cases hs:isSp r<;>rw[hs]at this<;>simp only[G1a,G0v]at this<;>omega
 | .s x::r,g,h=>by
   have:=Q6s r _ h.2.2.2
   show r.length+1<=2 * ((dcs r).length+1)+0
   cases hs:isSp r<;>rw[hs]at this<;>simp only[G1a,G0v]at this<;>omega
 | .h raw t::r,g,h=>by
   have:=Q6s r _ h.2.2.2
   show r.length+1<=2 * ((dcs r).length+1)+0
   cases hs:isSp r<;>rw[hs]at this<;>simp only[G1a,G0v]at this<;>omega
 | .nl::r,g,h=>by
   have:=Q6s r _ h.2.2.2
   show r.length+1<=2 * ((dcs r).length+1)+0
   cases hs:isSp r<;>rw[hs]at this<;>simp only[G1a,G0v]at this<;>omega
theorem K6p:∀ (r:List Atm) (st:St),∀t∈tks r st,t.at_<=((st.1++dl r st).length:Int)
 | [],_,t,h=>(G2r h).elim
 | a::r,st,t,h=>by
   have e:st.1++dl (a::r) st=(em a st).1++dl r (em a st):=by rw[Z2x,dl,G0e]
   rw[e]
   rcases G2z.1 h with h|h
   ·have d:t.at_<=((em a st).1.length:Int):=by
     rw[Z2x,G0g]
     match a,h with
     | .w t q,h=>rw[G1p.1 h];show((st.1.length:Nat):Int)<=_;omega
     | .s x,h=>rw[G1p.1 h];show((st.1.length:Nat):Int)<=_;omega
     | .h raw t,h=>rw[G1p.1 h];show((st.1.length:Nat):Int)<=_;omega
     | .nl,h=>
       rw[G1p.1 h]
       show(((endl st.1).length:Nat):Int)<=_
       rw[endl,dA,G0g,G0i]
       cases decide (st.1.getLast?=some 92)with
       | true=>rw[Q0b,Q0b,G0g];simp only[G0i,G0z];omega
       | false=>rw[Q0a,Q0a];omega
     | .v n,h=>
       rw[dA,G0i]
       rcases G1j.1 h with rfl|h
       ·show((st.1.length:Nat):Int)<=_
        omega
       rw[G1p.1 h]
       show((st.1.length+1:Nat):Int)<=_
       omega
     | .k n,h=>
       rw[dA,G0i,G0i]
       rcases G1j.1 h with rfl|h
       ·show((st.1.length:Nat):Int)<=_
        omega
       rw[G1p.1 h]
       show((st.1.length+2:Nat):Int)<=_
       omega
    rw[G0g]
    omega
   exact K6p r _ t h
theorem J7v:∀ (t q:Str) (o:Bool),q.length=t.length->t.length<=(qrun o t q).length
 | [],_,_,_=>G1t _
 | c::t,[],_,h=>by cases h
 | c::t,x::q,o,h=>by
   have h:q.length=t.length:=G9f h
   have a:=J7v t q true h
   have d:=J7v t q false h
   rw[qrun]
   cases decide (B x=49)with
   | true=>simp only[G1a,G0g,G0i];omega
   | false=>simp only[G0v,G0g,G0i];omega
theorem K6o:∀ (r:List Atm) (st:St) (g:Bool),WF g r->∀u∈tks r st,(u.text_.length<=(dl r st).length/\u.quoted_.length<=(dl r st).length)/\(u.kind_=2->u.text_≠[])
 | [],_,_,_,u,h=>(G2r h).elim
 | a::r,st,g,l,u,h=>by
   rw[dl,G0g]
   rcases G2z.1 h with h|h
   ·have d:=l.1
    match a,d,h with
    | .w t q,d,h=>
      have hq:=X1n t q d.1
      have o:t.length<=(Q5q t q).length:=by
       rw[Q5q]
       by_cases m:t=[]
       ·rw[m];exact G1t _
       rw[G0b m,Q0a];exact J7v t q false hq
      rw[G1p.1 h,dA]
      exact⟨⟨show t.length<=_ by omega,show q.length<=_ by omega⟩,λe=>by cases e⟩
    | .s x,d,h=>
      rw[G1p.1 h,dA]
      obtain⟨c,y,rfl,-⟩:=d
      exact⟨⟨Nat.le_add_right _ _,G1t _⟩,λ_ e=>by cases e⟩
    | .h raw t,_,h=>
      rw[G1p.1 h,dA]
      simp only[G0i,G0g,G1z]
      exact⟨⟨by omega,by omega⟩,λe=>by cases e⟩
    | .nl,_,h=>
      rw[G1p.1 h,dA]
      simp only[G0g,G0i,G0z]
      exact⟨⟨by omega,G1t _⟩,λe=>by cases e⟩
    | .v n,_,h=>
      rw[dA,G0i]
      rcases G1j.1 h with rfl|h
      ·exact⟨⟨show 1<=_ by omega,G1t _⟩,λ_ e=>by cases e⟩
      rw[G1p.1 h]
      exact⟨⟨show n.length<=_ by omega,by rw[zr,G1z];omega⟩,λe=>by cases e⟩
    | .k n,_,h=>
      rw[dA,G0i,G0i]
      rcases G1j.1 h with rfl|h
      ·exact⟨⟨show 2<=_ by omega,G1t _⟩,λ_ e=>by cases e⟩
      rw[G1p.1 h]
      exact⟨⟨show n.length<=_ by omega,by rw[zr,G1z];omega⟩,λe=>by cases e⟩
   have f:=K6o r (em a st) _ l.2.2.2 u h
   exact⟨⟨G3c f.1.1 (Nat.le_add_left _ _),G3c f.1.2 (Nat.le_add_left _ _)⟩,f.2⟩
theorem X6f:∀ (r:List Atm) (st:St),endN r->r≠[]->st.2.length<=(dl r st).length
 | [],_,_,h=>absurd rfl h
 | a::r,st,f,_=>by
   rw[dl,G0g]
   by_cases d:a=.nl
   ·subst d
    rw[dA,G0g,G0i]
    omega
   have g:r≠[]:=λe=>d ((Z1n f).2 e)
   have l:=X6f r (em a st) (Z1n f).1 g
   have m:st.2.length<=(em a st).2.length:=by
    rw[Z2w]
    cases a with
    | nl=>exact absurd rfl d
    | h raw t=>rw[em2,G0g];omega
    | _=>exact G0r _
   omega
theorem K7s:∀ (r:List Atm) (st:St),endN r->∀d∈dcs r,d.length<=(dl r st).length
 | [],_,_,d,h=>(G2r h).elim
 | a::r,st,f,d,h=>by
   rw[dl,G0g]
   rcases G2z.1 (show d∈dcA a++dcs r from h)with h|h
   ·match a,f,h with
    | .w t q,_,h=>rw[G1p.1 h];exact G1t _
    | .s x,_,h=>rw[G1p.1 h];exact G1t _
    | .nl,_,h=>rw[G1p.1 h];exact G1t _
    | .v n,_,h=>
      rcases G1j.1 h with rfl|h
      ·exact G1t _
      rw[G1p.1 h];exact G1t _
    | .k n,_,h=>
      rcases G1j.1 h with rfl|h
      ·exact G1t _
      rw[G1p.1 h];exact G1t _
    | .h raw t,f,h=>
      rw[G1p.1 h]
      have g:r≠[]:=λe=>by cases(Z1n f).2 e
      have:=X6f r (em (.h raw t) st) (Z1n f).1 g
      rw[Z2w,em2,G0g,G0g]at this
      omega
   have:=K7s r (em a st) (Z1n f).1 d h
   omega
theorem K9q{l:List Cmd}(h:rUp l 4=true):(∃q,F8 (txt l)=some ([],q,4))\/∃l',F20 (txt l) (tkn l)=some (l',0,0)/\zCs l'=zCs l/\F19 (txt l)=some (tkn l,0,0):=by
 rcases K9l h with hs|⟨q,hs⟩
 ·by_cases F:(txt l).length<=65536
  ·refine .inr ?_
   have o:=Lx.F5_eq (txt l) F
   have p:Lx.lex ((txt l).length+1) 0 (txt l) [] []=.ok (tkn l):=by
    cases p:Lx.lex ((txt l).length+1) 0 (txt l) [] []with
    | error e=>
      obtain⟨q,c⟩:=e
      rw[p]at o
      obtain⟨f,H⟩:=o
      rw[hs]at f
      injection f with f
      injection f with _ f
      injection f with _ f
      exact absurd f.symm H
    | ok T=>
      rw[p]at o
      have f:F19 (txt l)=some (T,0,0):=o
      rw[hs]at f
      injection f with f
      injection f with f _
      rw[f]
   have hT:=Lx.lex_len _ _ _ _ _ _ (G1t _) p
   have hd:=K5b h (by omega) (by omega)
   have V:(dcs (aIts l)).length=(tkn l).length:=(J9a (aIts l) ([],[])).symm
   have I:∀d∈dcs (aIts l),d.length<=1000000:=λd hd=>by
    have g:=K7s (aIts l) ([],[]) (Z6z l) d hd
    have C:d.length<=(txt l).length:=g
    omega
   have x:=J2n l [] h trivial
   rw[G0n]at x
   have J:OkV (tkn l) (dcs (aIts l)):=by
    have hk:=λu m=>K6o (aIts l) ([],[]) false x u m
    have K:∀u∈tkn l,u.text_.length<=1000000/\u.quoted_.length<=1000000:=λu m=>by
     have g:=(hk u m).1
     have C:u.text_.length<=(txt l).length/\u.quoted_.length<=(txt l).length:=g
     omega
    refine⟨⟨by omega,K,λu m=>(hk u m).2⟩,λi=>?_,λk d t=>?_⟩
    ·rcases K6m (T:=tkn l) (i:=i)with z|z
     ·have g:=K6p (aIts l) ([],[]) _ z
      have C:(tp (tkn l) i).at_<=((txt l).length:Int):=g
      omega
     rw[z]
     decide
    obtain⟨y,L⟩:=List.getElem?_of_mem (l:=dcs (aIts l)) (a:=d) (by
     rw[lidx]at t
     split at t
     ·exact G1o t
     cases t)
    exact I d (G1o L)
   have E:=Q6s _ _ x
   have M:(aIts l).length<=2049:=by
    cases hs:isSp (aIts l)<;>rw[hs]at E<;>simp only[G1a,G0v]at E<;>omega
   have A:=Vw.start l
   have A:Vw (tkn l) (dcs (aIts l)) (aIts l++[]) 0:=by rw[G0n];exact A
   obtain⟨l',j,f,O,Q⟩:=X4f ((K3h BIG 2049).1 (by unfold BIG;omega)) (ic:=false) h M (txt l) (tkn l) (dcs (aIts l)) false [] 0 J A ⟨rfl,.inl rfl⟩
   refine⟨l',?_,O,hs⟩
   rw[F20,hd,G0a,f]
   dsimp only
   rw[Q.end,G0b (by omega),Q0a]
  have U:F19 (txt l)=some ([],0,4):=by rw[F19,G0h (by omega),Q0b]
  refine .inl ⟨0,?_⟩
  rw[F8,U]
  rfl
 refine .inl ⟨q,?_⟩
 rw[F8,hs]
 rfl
theorem J3i{s:Str}(h:nameB s=true):s≠[]:=by
 rintro rfl
 exact absurd h (by decide)
mutual
theorem nm_W:∀w:Word,rW w=true->nmW w
 | ⟨k,t,q,ws,cs⟩,h=>by
   rw[nmW]
   rcases Q6x h with⟨rfl,-,rfl,rfl⟩|⟨-,-,rfl,rfl,rfl⟩|⟨rfl,-,rfl,-,rfl,a⟩|⟨rfl,rfl,rfl,rfl,a⟩|⟨rfl,rfl,rfl,rfl,d⟩|⟨rfl,hk,rfl,rfl,e,rfl,a⟩
   ·rw[nmWs,nmCs];exact⟨trivial,trivial⟩
   ·rw[nmWs,nmCs];exact⟨trivial,trivial⟩
   ·exact⟨J0c ws a,by rw[nmCs];trivial⟩
   ·exact⟨J0c ws a,by rw[nmCs];trivial⟩
   ·exact⟨by rw[nmWs];trivial,Z3u cs 4 d⟩
   exact⟨J0c ws a,by rw[nmCs];trivial⟩
theorem J0c:∀l:List Word,rWs l=true->nmWs l
 | [],_=>by rw[nmWs];trivial
 | w::r,h=>by
   rw[rWs,G0d]at h
   rw[nmWs]
   exact⟨nm_W w h.1,J0c r h.2⟩
theorem nm_C:∀c:Cmd,rC c=true->nmC c
 | ⟨k,a,nm,ws,rs,ks⟩,h=>by
   rw[nmC]
   rcases Q4t h with⟨rfl,-,-,rfl,f,m,-⟩|⟨rfl,g,rfl,-,-,f,d⟩|⟨e,rfl,rfl,rfl,-,d⟩|⟨rfl,rfl,rfl,rfl,-,d⟩|⟨e,rfl,rfl,rfl,o,d⟩|⟨e,rfl,rfl,rfl,o,d⟩|⟨rfl,g,rfl,-,f,d⟩|⟨rfl,rfl,rfl,m,d⟩|⟨rfl,g,rfl,rfl,d⟩|⟨rfl,rfl,rfl,rfl,-,d⟩|⟨rfl,rfl,rfl,-,rfl,f⟩|⟨rfl,rfl,rfl,-,f,d⟩
   ·exact⟨λe=>absurd e (by decide),J0c ws f,V0n rs m,by rw[nmCs];trivial⟩
   ·exact⟨λ_=>J3i g,J0c ws f,by rw[nmRs];trivial,Z3u ks 1 d⟩
   ·exact⟨λl=>absurd l (by rcases e with rfl|rfl|rfl<;>decide),by rw[nmWs];trivial,by rw[nmRs];trivial,Z3u ks 1 d⟩
   ·exact⟨λe=>absurd e (by decide),by rw[nmWs];trivial,by rw[nmRs];trivial,Z3u ks 3 d⟩
   ·refine⟨λl=>absurd l (by rcases e with rfl|rfl<;>decide),by rw[nmWs];trivial,by rw[nmRs];trivial,?_⟩
    match ks,o,d with
    | c::r,_,d=>
      rw[rIf,G0d,G0d]at d
      rw[nmCs]
      exact⟨nm_C c d.1.2,Z3u r 1 d.2⟩
   ·refine⟨λl=>absurd l (by rcases e with rfl|rfl<;>decide),by rw[nmWs];trivial,by rw[nmRs];trivial,?_⟩
    match ks,o,d with
    | c::r,_,d=>
      rw[rAnd,G0d,G0d]at d
      rw[nmCs]
      exact⟨nm_C c d.1.2,Z3u r 2 d.2⟩
   ·exact⟨λ_=>J3i g,J0c ws f,by rw[nmRs];trivial,Z3u ks 1 d⟩
   ·exact⟨λe=>absurd e (by decide),by rw[nmWs];trivial,V0n rs m,Z3u ks 4 d⟩
   ·exact⟨λ_=>J3i g,by rw[nmWs];trivial,by rw[nmRs];trivial,Z3u ks 4 d⟩
   ·exact⟨λe=>absurd e (by decide),by rw[nmWs];trivial,by rw[nmRs];trivial,Z3u ks 1 d⟩
   ·exact⟨λe=>absurd e (by decide),J0c ws f,by rw[nmRs];trivial,by rw[nmCs];trivial⟩
   exact⟨λe=>absurd e (by decide),J0c ws f,by rw[nmRs];trivial,V5q ks d⟩
theorem Z3u:∀ (l:List Cmd) (m:Int),rUp l m=true->nmCs l
 | [],_,_=>by rw[nmCs];trivial
 | c::r,m,h=>by
   rw[rUp,G0d,G0d]at h
   rw[nmCs]
   exact⟨nm_C c h.1.2,Z3u r m h.2⟩
theorem V5q:∀ (l:List Cmd),Q3v l=true->nmCs l
 | [],_=>by rw[nmCs];trivial
 | ⟨k,a,nm,ws,rs,ks⟩::r,h=>by
   rw[Q3v,G0d,Q5p]at h
   simp only[G0d,G0l]at h
   obtain⟨⟨⟨⟨⟨⟨rfl,rfl⟩,d⟩,-⟩,f⟩,g⟩,m⟩:=h
   have d:=G1q.1 d
   subst d
   rw[nmCs,nmC]
   exact⟨⟨λe=>absurd e (by decide),J0c ws f,by rw[nmRs];trivial,Z3u ks 4 g⟩,V5q r m⟩
theorem nm_R:∀d:Redir,rR d=true->nmR d
 | ⟨k,fd,g,w,raw⟩,h=>by
   rw[nmR]
   obtain⟨-,hk⟩:=Z7l h
   rcases hk with⟨-,-,-,a⟩|⟨-,-,a⟩|⟨-,-,-,a⟩|⟨-,-,a⟩
   ·exact nm_W w a
   ·rw[Z8d a,nmW,nmWs,nmCs];exact⟨trivial,trivial⟩
   ·rw[Z8d a,nmW,nmWs,nmCs];exact⟨trivial,trivial⟩
   obtain⟨-,-,-,e,f,-⟩:=Z6x a
   obtain⟨_,_,_,ws,cs⟩:=w
   have e:ws=[]:=e
   have f:cs=[]:=f
   subst e f
   rw[nmW,nmWs,nmCs]
   exact⟨trivial,trivial⟩
theorem V0n:∀l:List Redir,rRs l=true->nmRs l
 | [],_=>by rw[nmRs];trivial
 | d::r,h=>by
   rw[rRs,G0d]at h
   rw[nmRs]
   exact⟨nm_R d h.1,V0n r h.2⟩
end
mutual
theorem nzW:∀w:Word,nW (zW w)=nW w
 | ⟨_,_,_,ws,cs⟩=>by rw[zW,nW,nW,nzWs ws,nzCs cs]
theorem nzWs:∀l:List Word,nWs (zWs l)=nWs l
 | []=>by rw[zWs]
 | w::r=>by rw[zWs,nWs,nWs,nzW w,nzWs r]
theorem nzC:∀c:Cmd,nC (zC c)=nC c
 | ⟨_,_,_,ws,rs,ks⟩=>by rw[zC,nC,nC,nzWs ws,nzCs ks,nzRs rs]
theorem nzCs:∀l:List Cmd,nCs (zCs l)=nCs l
 | []=>by rw[zCs]
 | c::r=>by rw[zCs,nCs,nCs,nzC c,nzCs r]
theorem nzR:∀d:Redir,nR (zR d)=nR d
 | ⟨_,_,_,w,_⟩=>by rw[zR,nR,nR,nzW w]
theorem nzRs:∀l:List Redir,nRs (zRs l)=nRs l
 | []=>by rw[zRs]
 | d::r=>by rw[zRs,nRs,nRs,nzR d,nzRs r]
end
theorem V4k{l:List Cmd}(h:rUp l 4=true):(pIts l ([],[])).1=txt l:=by
 rw[Z1j l _ (Z3u l 4 h),X9t]
 rfl
theorem J3c(l:List Cmd)(u:okCs l)(x:l.length<=maxLen):F6 l=some true:=by
 obtain⟨b,e,hb⟩:=V3z l u x
 rw[F6,e,G0a,X5j]
 cases b with
 | false=>rfl
 | true=>
   obtain⟨d,f⟩:=hb rfl
   rw[Q0f,Y4i l d f,G0a,Y4d l d f]
   show(bif (!true||!Z5e l)then _ else _)=_
   cases g:Z5e l with
   | false=>rfl
   | true=>
     have m:rUp l 4=true:=by
      rw[Z5e,G0d]at g
      rw[Q3m]
      exact g.2
     rw[G0m,G6s,Q0a,Q0b,G0a]
     dsimp only
     rw[G0h rfl,G0m,Q0a,V4k m]
     have o:∀q:Int,((some (([]:List Cmd),q,(4:Int))).bind λ(y,F,a)=>
      (Q0e (!(decide (a=4))&&decide (a=0)) (K10 BIG l y)).bind λp=>
      (Q0e (decide (a=4)||(decide (a=0)&&p)) (some true)).bind λz=>
      some ((decide (a=4)||(decide (a=0)&&p))&&z))=some true:=λq=>rfl
     rcases K9q m with⟨q,A⟩|⟨l',C,t,E⟩
     ·rw[A]
      exact o q
     have H:nCs l'=nCs l:=by rw[<-nzCs l',t,nzCs]
     rw[F8,E,G0a]
     dsimp only
     rw[e00,G0m,Q0a,C,G0a]
     dsimp only
     rw[e00,G0m,Q0a,K8r l' (by omega),G0a]
     cases decide (szCs l'<=1024)&&decide (dCs l'<=32)with
     | false=>
       rw[G0o,Q0b]
       exact o 0
     | true=>
       rw[G0m,Q0a,G0a]
       dsimp only
       rw[(X7a BIG).2 l l' t.symm (by unfold BIG;omega) (by omega)]
       rfl
theorem law6(l:List Cmd)(w:l.length<=maxLen/\okCs l):F6 l=some true:=J3c l w.2 w.1
end Go.Abs.U48
set_option maxRecDepth 100000
namespace Go.Abs.U48
open Go.Proofs.Tryz
open Go Go.Proofs
theorem X1l:∀ {l:List Word},(∀x∈l,okW x)->okWs l
 | [],_=>by rw[okWs];trivial
 | x::r,h=>by rw[okWs];exact⟨h x (G1g ..),X1l λy a=>h y (G1l _ a)⟩
theorem X1o:∀ {l:List Redir},(∀x∈l,okR x)->okRs l
 | [],_=>by rw[okRs];trivial
 | x::r,h=>by rw[okRs];exact⟨h x (G1g ..),X1o λy a=>h y (G1l _ a)⟩
theorem X1p:∀ {l:List Cmd},(∀x∈l,okC x)->okCs l
 | [],_=>by rw[okCs];trivial
 | x::r,h=>by rw[okCs];exact⟨h x (G1g ..),X1p λy a=>h y (G1l _ a)⟩
theorem tyr:∀n:Nat,
 (∀p,Q1w prog n 49 p->∃x:Word,p=x.pv/\okW x)/\(∀p,Q1w prog n 36 p->∃x:Cmd,p=x.pv/\okC x)/\(∀p,Q1w prog n 51 p->∃x:Redir,p=x.pv/\okR x)/\
 (∀p,Q1w prog n 33 p->∃xs:List Word,p=.slice (xs.map Word.pv)/\xs.length<=maxLen/\okWs xs)/\(∀p,Q1w prog n 23 p->∃xs:List Cmd,p=.slice (xs.map Cmd.pv)/\xs.length<=maxLen/\okCs xs)/\(∀p,Q1w prog n 34 p->∃xs:List Redir,p=.slice (xs.map Redir.pv)/\xs.length<=maxLen/\okRs xs)
 | 0=>⟨λp h=>h.elim,λp h=>h.elim,λp h=>h.elim,λp h=>h.elim,λp h=>h.elim,λp h=>h.elim⟩
 | n+1=>by
   obtain⟨K,O,Q,L,M,U⟩:=tyr n
   refine⟨λp h=>?_,λp h=>?_,λp h=>?_,λp h=>?_,λp h=>?_,λp h=>?_⟩
   ·rw[Q1w]at h
    simp only[underlying49]at h
    obtain⟨d,rfl,a,hq⟩:=h
    match d,a with
    | [e,g,l,m,o],_=>
      obtain⟨q,rfl,_⟩:=ty_3 n (hq 0 _ e rfl rfl).mono
      obtain⟨t,rfl,w1⟩:=ty_9 n (hq 1 _ g rfl rfl).mono
      obtain⟨u,rfl,H⟩:=ty_9 n (hq 2 _ l rfl rfl).mono
      obtain⟨y,rfl,z,I⟩:=L _ (hq 3 _ m rfl rfl)
      obtain⟨A,rfl,w4,J⟩:=M _ (hq 4 _ o rfl rfl)
      exact⟨⟨q,t,u,y,A⟩,by rw[Word.pv_eq];rfl,by rw[okW];exact⟨w1,H,z,w4,I,J⟩⟩
   ·rw[Q1w]at h
    simp only[underlying36]at h
    obtain⟨d,rfl,a,hq⟩:=h
    match d,a with
    | [e,g,l,m,o,V],_=>
      obtain⟨q,rfl,_⟩:=ty_3 n (hq 0 _ e rfl rfl).mono
      obtain⟨t,rfl,_⟩:=ty_3 n (hq 1 _ g rfl rfl).mono
      obtain⟨u,rfl,H⟩:=ty_9 n (hq 2 _ l rfl rfl).mono
      obtain⟨y,rfl,z,I⟩:=L _ (hq 3 _ m rfl rfl)
      obtain⟨A,rfl,w4,J⟩:=U _ (hq 4 _ o rfl rfl)
      obtain⟨X,rfl,Y,aa⟩:=M _ (hq 5 _ V rfl rfl)
      exact⟨⟨q,t,u,y,A,X⟩,by rw[Cmd.pv_eq];rfl,by rw[okC];exact⟨H,z,w4,Y,I,J,aa⟩⟩
   ·rw[Q1w]at h
    simp only[underlying51]at h
    obtain⟨d,rfl,a,hq⟩:=h
    match d,a with
    | [e,g,l,m,o],_=>
      obtain⟨q,rfl,_⟩:=ty_3 n (hq 0 _ e rfl rfl).mono
      obtain⟨t,rfl,_⟩:=ty_3 n (hq 1 _ g rfl rfl).mono
      obtain⟨u,rfl,_⟩:=ty_3 n (hq 2 _ l rfl rfl).mono
      obtain⟨y,rfl,z⟩:=K _ (hq 3 _ m rfl rfl)
      obtain⟨A,rfl,_⟩:=ty_4 n (hq 4 _ o rfl rfl).mono
      exact⟨⟨q,t,u,y,A⟩,by rw[Redir.pv_eq,Word.pv_eq];rfl,by rw[okR];exact z⟩
   ·rw[Q1w]at h
    simp only[underlying33]at h
    obtain⟨xs,rfl,a,C⟩:=h
    obtain⟨ys,rfl,E⟩:=X2f (f:=Word.pv) (W:=okW) λx F=>K x (C x F).1
    exact⟨ys,rfl,by rw[G1h]at a;exact a,X1l E⟩
   ·rw[Q1w]at h
    simp only[underlying23]at h
    obtain⟨xs,rfl,a,C⟩:=h
    obtain⟨ys,rfl,E⟩:=X2f (f:=Cmd.pv) (W:=okC) λx F=>O x (C x F).1
    exact⟨ys,rfl,by rw[G1h]at a;exact a,X1p E⟩
   rw[Q1w]at h
   simp only[underlying34]at h
   obtain⟨xs,rfl,a,C⟩:=h
   obtain⟨ys,rfl,E⟩:=X2f (f:=Redir.pv) (W:=okR) λx F=>Q x (C x F).1
   exact⟨ys,rfl,by rw[G1h]at a;exact a,X1o E⟩
theorem V4j(n:Nat){p:PV}(h:Q1w prog n 23 p):∃x:List Cmd,p=.slice (List.map Cmd.pv x)/\x.length<=maxLen/\okCs x:=(tyr n).2.2.2.2.1 p h
end Go.Abs.U48
